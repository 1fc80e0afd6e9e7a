/- For the law FnOrder (laid by merge.py). -/
import Derived.Test.YthhkkhnjkoacnaaDoorMFnOrdere
import Derived.Laws.BitsLemmas
section
namespace Go.Proofs.YthhkkhnjkoacnaaDoor.PA
open Go.RowKit Go.Proofs.YthhkkhnjkoacnaaDoorW.PrintWords Go.Proofs.YthhkkhnjkoacnaaDoorW.PrintLast Go.Proofs.YthhkkhnjkoacnaaDoorW.PrintMore
attribute [local go_sem] max2_int min2_int max_two min_two max_three min_three max_four min_four
set_option linter.unusedVariables false
set_option linter.unusedSimpArgs false
set_option maxHeartbeats 60000000
set_option maxRecDepth 100000
def spec_ReadValue.j0 : Nat → ByteArray → Int → Bool → Option (Int × Int × ByteArray × Int × Bool)
 | 0, _, _, _ => none
 | k + 1, x0, x1, x21 => if x21 = true then (some (0, 0, (⟨#[]⟩ : ByteArray), 0, false)) else ((spec_l4Read.f k x0 x1).bind fun bt10 => (if bt10.2.2.2 < 0 then (some (0, 0, (⟨#[]⟩ : ByteArray), 0, false)) else (some (bt10.1, bt10.2.1, bt10.2.2.1, bt10.2.2.2, true))))
def spec_ReadValue.f (k : Nat) (a0 : ByteArray) (a1 : Int) : Option (Int × Int × ByteArray × Int × Bool) := if (a0.size : Int) > 600 then (spec_ReadValue.j0 k a0 a1 true) else (if a1 < 0 then (spec_ReadValue.j0 k a0 a1 true) else (spec_ReadValue.j0 k a0 a1 (decide (a1 ≥ (a0.size : Int)))))
theorem spec_ReadValue.calls (k : Nat) (a0 : ByteArray) (a1 : Int) (r1 : Int) (r2 : Int) (r3 : ByteArray) (r4 : Int) (r5 : Bool) (w : World) (h : spec_ReadValue.f k a0 a1 = some (r1, r2, r3, r4, r5)) :
  Calls Tryd.prog 32 #[.string a0, .int .i64 a1] w fun e w' => e = .returned (.tuple #[.agg #[.int .i64 r1, .int .i64 r2, .string r3], .int .i64 r4, .bool r5]) ∧ Below w.heap.size w w' := by
 have hu27 := Tryd.underlying27; have HB := zA (Below.refl w.heap.size w); have H : (if (a0.size : Int) > 600 then (spec_ReadValue.j0 k a0 a1 true) else (if a1 < 0 then (spec_ReadValue.j0 k a0 a1 true) else (spec_ReadValue.j0 k a0 a1 (decide (a1 ≥ (a0.size : Int)))))) = some (r1, r2, r3, r4, r5) := h; clear h; have HC3 := zA H; clear H; go_enter Tryd.func32, Tryd.ntmps32; go_upto_region 1 with (first | ((with_reducible refine gate_dst (N := 4) rfl ?_); (try (refine gate_guard (by rfl) ?_; dsimp only)); refine box_event ?hg (N := 4) ?hd (cs := #[.int .i64 0, .int .i64 0, .string (⟨#[]⟩ : ByteArray)]) (t := 27) ?hr ?_; (case hd => rfl); (case hg => rfl); (case hr => first | (go_simp; done) | (go_simp; rfl)); intro gb22 hg w4 hbox hb; have n0_ := zA (zAD (by (with_reducible repeat first | exact HB.out | apply zH | apply zF | apply zG) <;> exact HB.out) hb); have n1_ := zA (hbox); have n2_ := zA ((by rw [hg]; exact (zAE (by (with_reducible repeat first | exact HB.out | apply zH | apply zF | apply zG) <;> exact HB.out)) : w.heap.size ≤ gb22)); have n3_ := zA ((by rw [hg]; exact (zAE (by (with_reducible repeat first | exact HB.out | apply zH | apply zF | apply zG) <;> exact HB.out)) : w.heap.size ≤ gb22)); clear HB; have HB := n0_; have BK22 := n1_; have GW22 := n2_; have GE22 := n3_; clear n0_ n1_ n2_ n3_; clear hb hbox hg))
 (try simp only [Act.put, zC, zD, zE]); go_cut [21] (fun v21 wc => ∃ (kq : Nat) (x21_2 : Bool), v21 = .bool x21_2 ∧ Aside0 (spec_ReadValue.j0 kq a0 a1 x21_2 = some (r1, r2, r3, r4, r5)) ∧ Aside0 (kq ≤ k) ∧ Aside0 (wc.heap[gb22]? = some (.cells #[.int .i64 0, .int .i64 0, .string (⟨#[]⟩ : ByteArray)] 27 (0, 0))) ∧ Aside0 (Below w.heap.size w wc))
 case first =>
  have H := HC3.out; clear HC3
  by_cases c5 : (a0.size : Int) > 600
  ·rw [if_pos c5] at H
   have c5b0 : decide (600 < (a0.size : Int)) = true := zX c5; have c5b1 : decide (600 < a0.size) = true := zX (by omega); clear c5; (first | rw [c5b0] | (simp only [i64_w, i32_w]; rw [c5b0]) | skip); have H' := zA H; clear H; go_wp2; go_meet
   case rel => exact ⟨_, (true), (by first | rfl | (simp; done) | (simp [*]; done) | (simp [bne]; done)), H', ⟨by first | omega | exact Nat.le_refl _⟩, ⟨by (with_reducible repeat (first | refine zL ?_ _ | refine zN ?_ | refine zM ?_ _)); exact BK22.out⟩, ⟨by repeat (first | (with_reducible first | exact HB.out | apply zH | apply zF | apply zG | refine zI ?_ GE22.out) | exact HB.out)⟩⟩
  ·rw [if_neg c5] at H
   have c5b0 : decide (600 < (a0.size : Int)) = false := decide_eq_false c5; have c5b1 : decide (600 < a0.size) = false := decide_eq_false (by omega); clear c5; (first | rw [c5b0] | (simp only [i64_w, i32_w]; rw [c5b0]) | skip)
   by_cases c6 : a1 < 0
   ·rw [if_pos c6] at H
    have c6b0 : decide (a1 < 0) = true := zX c6; clear c6; have H' := zA H; clear H; go_wp2; go_meet
    case rel => exact ⟨_, (true), (by first | rfl | (simp; done) | (simp [*]; done) | (simp [bne]; done)), H', ⟨by first | omega | exact Nat.le_refl _⟩, ⟨by (with_reducible repeat (first | refine zL ?_ _ | refine zN ?_ | refine zM ?_ _)); exact BK22.out⟩, ⟨by repeat (first | (with_reducible first | exact HB.out | apply zH | apply zF | apply zG | refine zI ?_ GE22.out) | exact HB.out)⟩⟩
   ·rw [if_neg c6] at H
    have c6b0 : decide (a1 < 0) = false := decide_eq_false c6; clear c6; have H' := zA H; clear H; go_wp2; go_meet
    case rel => exact ⟨_, (decide (a1 ≥ (a0.size : Int))), (by first | rfl | (simp; done) | (simp [*]; done) | (simp [bne]; done)), H', ⟨by first | omega | exact Nat.le_refl _⟩, ⟨by (with_reducible repeat (first | refine zL ?_ _ | refine zN ?_ | refine zM ?_ _)); exact BK22.out⟩, ⟨by repeat (first | (with_reducible first | exact HB.out | apply zH | apply zF | apply zG | refine zI ?_ GE22.out) | exact HB.out)⟩⟩
 case rest =>
  clear HC3
  try clear p2
  try clear c3
  try clear c5
  try clear c5b0
  try clear c5b1
  try clear c6
  try clear c6b0
  obtain ⟨kq, x21_2, rfl, HA, HJ2, BK22, HB⟩ := hcut
  cases kq with
  | zero => exact absurd HA.out (by simp [spec_ReadValue.j0])
  | succ kj2 =>
   have H := HA.out; clear HA; simp only [spec_ReadValue.j0] at H
   by_cases c7 : x21_2 = true
   ·subst c7
    have H1 : (some (0, 0, (⟨#[]⟩ : ByteArray), 0, false)) = some (r1, r2, r3, r4, r5) := by rw [if_pos rfl] at H; exact H
    clear H; have H := H1; clear H1; simp only [Option.some.injEq, Prod.mk.injEq] at H; obtain ⟨rfl, rfl, rfl, rfl, rfl⟩ := H; have hcz8_0 : wc.cell? ⟨gb22, 0, none⟩ = some (.int .i64 0) := (zP BK22.out 0).trans rfl; have hcz8_1 : wc.cell? ⟨gb22, 1, none⟩ = some (.int .i64 0) := (zP BK22.out 1).trans rfl; have hcz8_2 : wc.cell? ⟨gb22, 2, none⟩ = some (.string (⟨#[]⟩ : ByteArray)) := (zP BK22.out 2).trans rfl; have hfz8_0 := zO BK22.out 0; have hfz8_1 := zO BK22.out 1; have hfz8_2 := zO BK22.out 2; go_wp2; refine bodyPost_ret (results_ctt rfl _ _ gb22 27 #[.int .i64 0, .int .i64 0, .string (⟨#[]⟩ : ByteArray)] (0, 0) _ rfl (by (with_reducible repeat (first | refine zL ?_ _ | refine zN ?_ | refine zM ?_ _)); refine blk_put (cs := #[.int .i64 0, .int .i64 0, .string (⟨#[]⟩ : ByteArray)]) ?_ 2 _ rfl; (with_reducible repeat (first | refine zL ?_ _ | refine zN ?_ | refine zM ?_ _)); refine blk_put (cs := #[.int .i64 0, .int .i64 0, .string (⟨#[]⟩ : ByteArray)]) ?_ 1 _ rfl; (with_reducible repeat (first | refine zL ?_ _ | refine zN ?_ | refine zM ?_ _)); refine blk_put (cs := #[.int .i64 0, .int .i64 0, .string (⟨#[]⟩ : ByteArray)]) ?_ 0 _ rfl; (with_reducible repeat (first | refine zL ?_ _ | refine zN ?_ | refine zM ?_ _)); exact BK22.out) Tryd.underlying27 rfl (by kernel_rfl)) rfl ?_; exact ⟨by first | rfl | (simp <;> rfl) | (simp [*] <;> rfl), by repeat (first | (with_reducible first | exact HB.out | apply zH | apply zF | apply zG | refine zI ?_ GE22.out) | exact HB.out)⟩
   ·replace c7 := Bool.eq_false_iff.mpr c7
    subst c7; have H1 : ((spec_l4Read.f kj2 a0 a1).bind fun bt23 => (if bt23.2.2.2 < 0 then (some (0, 0, (⟨#[]⟩ : ByteArray), 0, false)) else (some (bt23.1, bt23.2.1, bt23.2.2.1, bt23.2.2.2, true)))) = some (r1, r2, r3, r4, r5) := by rw [if_neg (show ¬ (false = true) by decide)] at H; exact H
    clear H; have H := H1; clear H1; replace H := zAF H; obtain ⟨⟨t23, t24, t25, t26⟩, A90, H⟩ := H; replace H : (if t26 < 0 then (some (0, 0, (⟨#[]⟩ : ByteArray), 0, false)) else (some (t23, t24, t25, t26, true))) = some (r1, r2, r3, r4, r5) := H; have A9 := zA A90; clear A90
    by_cases c10 : t26 < 0
    ·rw [if_pos c10] at H
     have c10b0 : decide (t26 < 0) = true := zX c10; clear c10; simp only [Option.some.injEq, Prod.mk.injEq] at H; obtain ⟨rfl, rfl, rfl, rfl, rfl⟩ := H; go_wp2_with (first | ((with_reducible refine yB (f := 57) rfl ?_); refine goesL_ (some 26) rfl rfl Tryd.func57 (by kernel_rfl) rfl #[.string a0, .int .i64 a1] rfl (by (try simp only [zAA, zAB, zAC]); first | done | rfl) ?_; (with_reducible refine (spec_l4Read.calls kj2 a0 a1 t23 t24 t25 t26 _ A9.out).mono ?_); rintro e w11 ⟨rfl, hb⟩; refine ⟨_, rfl, ?_⟩; have n0_ := zA (yE (g := gb22) (o := .cells #[.int .i64 0, .int .i64 0, .string (⟨#[]⟩ : ByteArray)] 27 (0, 0)) (by (with_reducible repeat (first | refine zL ?_ _ | refine zN ?_ | refine zM ?_ _)); exact BK22.out) hb); have n1_ := zA (zAD (by repeat (first | (with_reducible first | exact HB.out | apply zH | apply zF | apply zG | refine zI ?_ GE22.out) | exact HB.out)) hb); clear BK22; clear HB; have BK22 := n0_; have HB := n1_; clear n0_ n1_; (try clear hb)) | ((with_reducible refine gate_dst (N := 7) rfl ?_); (try (refine gate_guard (by rfl) ?_; dsimp only)); refine box_event ?hg (N := 7) ?hd (cs := #[.int .i64 0, .int .i64 0, .string (⟨#[]⟩ : ByteArray)]) (t := 27) ?hr ?_; (case hd => rfl); (case hg => rfl); (case hr => first | (go_simp; done) | (go_simp; rfl)); intro gb28 hg w12 hbox hb; have n0_ := zA (yE (g := gb22) (o := .cells #[.int .i64 0, .int .i64 0, .string (⟨#[]⟩ : ByteArray)] 27 (0, 0)) (by (with_reducible repeat (first | refine zL ?_ _ | refine zN ?_ | refine zM ?_ _)); exact BK22.out) hb); have n1_ := zA (zAD (by repeat (first | (with_reducible first | exact HB.out | apply zH | apply zF | apply zG | refine zI ?_ GE22.out) | exact HB.out)) hb); have n2_ := zA (hbox); have n3_ := zA ((by rw [hg]; exact (zAE (by repeat (first | (with_reducible first | exact HB.out | apply zH | apply zF | apply zG | refine zI ?_ GE22.out) | exact HB.out))) : w.heap.size ≤ gb28)); have n4_ := zA ((by rw [hg]; exact (zAE (by repeat (first | (with_reducible first | exact HB.out | apply zH | apply zF | apply zG | refine zI ?_ GE22.out) | exact HB.out))) : w.heap.size ≤ gb28)); have n5_ := zA ((by rw [hg]; exact zK (blk_lt (g := gb22) (o := .cells #[.int .i64 0, .int .i64 0, .string (⟨#[]⟩ : ByteArray)] 27 (0, 0)) (by (with_reducible repeat (first | refine zL ?_ _ | refine zN ?_ | refine zM ?_ _)); exact BK22.out)) : gb22 ≠ gb28)); have n6_ := zA ((by rw [hg]; exact Nat.ne_of_gt (blk_lt (g := gb22) (o := .cells #[.int .i64 0, .int .i64 0, .string (⟨#[]⟩ : ByteArray)] 27 (0, 0)) (by (with_reducible repeat (first | refine zL ?_ _ | refine zN ?_ | refine zM ?_ _)); exact BK22.out)) : gb28 ≠ gb22)); clear BK22; clear HB; have BK22 := n0_; have HB := n1_; have BK28 := n2_; have GW28 := n3_; have GE28 := n4_; have NB22_28 := n5_; have NB28_22 := n6_; clear n0_ n1_ n2_ n3_ n4_ n5_ n6_; clear hb hbox hg; have hnb13 := NB28_22.out; have hnc13 := NB22_28.out; have hcz14_0 : w12.cell? ⟨gb28, 0, none⟩ = some (.int .i64 0) := (zP BK28.out 0).trans rfl; have hcz14_1 : w12.cell? ⟨gb28, 1, none⟩ = some (.int .i64 0) := (zP BK28.out 1).trans rfl; have hcz14_2 : w12.cell? ⟨gb28, 2, none⟩ = some (.string (⟨#[]⟩ : ByteArray)) := (zP BK28.out 2).trans rfl; have hfz14_0 := zO BK28.out 0; have hfz14_1 := zO BK28.out 1; have hfz14_2 := zO BK28.out 2; have hcz15_0 : w12.cell? ⟨gb22, 0, none⟩ = some (.int .i64 0) := (zP BK22.out 0).trans rfl; have hcz15_1 : w12.cell? ⟨gb22, 1, none⟩ = some (.int .i64 0) := (zP BK22.out 1).trans rfl; have hcz15_2 : w12.cell? ⟨gb22, 2, none⟩ = some (.string (⟨#[]⟩ : ByteArray)) := (zP BK22.out 2).trans rfl; have hfz15_0 := zO BK22.out 0; have hfz15_1 := zO BK22.out 1; have hfz15_2 := zO BK22.out 2)); refine bodyPost_ret (results_ctt rfl _ _ gb22 27 #[.int .i64 0, .int .i64 0, .string (⟨#[]⟩ : ByteArray)] (0, 0) _ rfl (by (with_reducible repeat (first | refine zL ?_ _ | refine zN ?_ | refine zM ?_ _)); refine blk_put (cs := #[.int .i64 0, .int .i64 0, .string (⟨#[]⟩ : ByteArray)]) ?_ 2 _ rfl; (with_reducible repeat (first | refine zL ?_ _ | refine zN ?_ | refine zM ?_ _)); refine blk_put (cs := #[.int .i64 0, .int .i64 0, .string (⟨#[]⟩ : ByteArray)]) ?_ 1 _ rfl; (with_reducible repeat (first | refine zL ?_ _ | refine zN ?_ | refine zM ?_ _)); refine blk_put (cs := #[.int .i64 0, .int .i64 0, .string (⟨#[]⟩ : ByteArray)]) ?_ 0 _ rfl; (with_reducible repeat (first | refine zL ?_ _ | refine zN ?_ | refine zM ?_ _)); refine blk_far ?_ NB22_28.out _; (with_reducible repeat (first | refine zL ?_ _ | refine zN ?_ | refine zM ?_ _)); refine blk_far ?_ NB22_28.out _; (with_reducible repeat (first | refine zL ?_ _ | refine zN ?_ | refine zM ?_ _)); refine blk_far ?_ NB22_28.out _; (with_reducible repeat (first | refine zL ?_ _ | refine zN ?_ | refine zM ?_ _)); exact BK22.out) Tryd.underlying27 rfl (by kernel_rfl)) rfl ?_; exact ⟨by first | rfl | (simp <;> rfl) | (simp [*] <;> rfl), by repeat (first | (with_reducible first | exact HB.out | apply zH | apply zF | apply zG | refine zI ?_ GE22.out | refine zI ?_ GE28.out) | exact HB.out)⟩
    ·rw [if_neg c10] at H
     have c10b0 : decide (t26 < 0) = false := decide_eq_false c10; clear c10; simp only [Option.some.injEq, Prod.mk.injEq] at H; obtain ⟨rfl, rfl, rfl, rfl, rfl⟩ := H; go_wp2_with (first | ((with_reducible refine yB (f := 57) rfl ?_); refine goesL_ (some 26) rfl rfl Tryd.func57 (by kernel_rfl) rfl #[.string a0, .int .i64 a1] rfl (by (try simp only [zAA, zAB, zAC]); first | done | rfl) ?_; (with_reducible refine (spec_l4Read.calls kj2 a0 a1 t23 t24 t25 t26 _ A9.out).mono ?_); rintro e w16 ⟨rfl, hb⟩; refine ⟨_, rfl, ?_⟩; have n0_ := zA (yE (g := gb22) (o := .cells #[.int .i64 0, .int .i64 0, .string (⟨#[]⟩ : ByteArray)] 27 (0, 0)) (by (with_reducible repeat (first | refine zL ?_ _ | refine zN ?_ | refine zM ?_ _)); exact BK22.out) hb); have n1_ := zA (zAD (by repeat (first | (with_reducible first | exact HB.out | apply zH | apply zF | apply zG | refine zI ?_ GE22.out) | exact HB.out)) hb); clear BK22; clear HB; have BK22 := n0_; have HB := n1_; clear n0_ n1_; (try clear hb)) | ((with_reducible refine gate_dst (N := 7) rfl ?_); (try (refine gate_guard (by rfl) ?_; dsimp only)); refine box_event ?hg (N := 7) ?hd (cs := #[.int .i64 0, .int .i64 0, .string (⟨#[]⟩ : ByteArray)]) (t := 27) ?hr ?_; (case hd => rfl); (case hg => rfl); (case hr => first | (go_simp; done) | (go_simp; rfl)); intro gb28 hg w17 hbox hb; have n0_ := zA (yE (g := gb22) (o := .cells #[.int .i64 0, .int .i64 0, .string (⟨#[]⟩ : ByteArray)] 27 (0, 0)) (by (with_reducible repeat (first | refine zL ?_ _ | refine zN ?_ | refine zM ?_ _)); exact BK22.out) hb); have n1_ := zA (zAD (by repeat (first | (with_reducible first | exact HB.out | apply zH | apply zF | apply zG | refine zI ?_ GE22.out) | exact HB.out)) hb); have n2_ := zA (hbox); have n3_ := zA ((by rw [hg]; exact (zAE (by repeat (first | (with_reducible first | exact HB.out | apply zH | apply zF | apply zG | refine zI ?_ GE22.out) | exact HB.out))) : w.heap.size ≤ gb28)); have n4_ := zA ((by rw [hg]; exact (zAE (by repeat (first | (with_reducible first | exact HB.out | apply zH | apply zF | apply zG | refine zI ?_ GE22.out) | exact HB.out))) : w.heap.size ≤ gb28)); have n5_ := zA ((by rw [hg]; exact zK (blk_lt (g := gb22) (o := .cells #[.int .i64 0, .int .i64 0, .string (⟨#[]⟩ : ByteArray)] 27 (0, 0)) (by (with_reducible repeat (first | refine zL ?_ _ | refine zN ?_ | refine zM ?_ _)); exact BK22.out)) : gb22 ≠ gb28)); have n6_ := zA ((by rw [hg]; exact Nat.ne_of_gt (blk_lt (g := gb22) (o := .cells #[.int .i64 0, .int .i64 0, .string (⟨#[]⟩ : ByteArray)] 27 (0, 0)) (by (with_reducible repeat (first | refine zL ?_ _ | refine zN ?_ | refine zM ?_ _)); exact BK22.out)) : gb28 ≠ gb22)); clear BK22; clear HB; have BK22 := n0_; have HB := n1_; have BK28 := n2_; have GW28 := n3_; have GE28 := n4_; have NB22_28 := n5_; have NB28_22 := n6_; clear n0_ n1_ n2_ n3_ n4_ n5_ n6_; clear hb hbox hg; have hnb18 := NB28_22.out; have hnc18 := NB22_28.out; have hcz19_0 : w17.cell? ⟨gb28, 0, none⟩ = some (.int .i64 0) := (zP BK28.out 0).trans rfl; have hcz19_1 : w17.cell? ⟨gb28, 1, none⟩ = some (.int .i64 0) := (zP BK28.out 1).trans rfl; have hcz19_2 : w17.cell? ⟨gb28, 2, none⟩ = some (.string (⟨#[]⟩ : ByteArray)) := (zP BK28.out 2).trans rfl; have hfz19_0 := zO BK28.out 0; have hfz19_1 := zO BK28.out 1; have hfz19_2 := zO BK28.out 2; have hcz20_0 : w17.cell? ⟨gb22, 0, none⟩ = some (.int .i64 0) := (zP BK22.out 0).trans rfl; have hcz20_1 : w17.cell? ⟨gb22, 1, none⟩ = some (.int .i64 0) := (zP BK22.out 1).trans rfl; have hcz20_2 : w17.cell? ⟨gb22, 2, none⟩ = some (.string (⟨#[]⟩ : ByteArray)) := (zP BK22.out 2).trans rfl; have hfz20_0 := zO BK22.out 0; have hfz20_1 := zO BK22.out 1; have hfz20_2 := zO BK22.out 2)); refine bodyPost_ret (results_ctt rfl _ _ gb22 27 #[.int .i64 t23, .int .i64 t24, .string t25] (0, 0) _ rfl (by (with_reducible repeat (first | refine zL ?_ _ | refine zN ?_ | refine zM ?_ _)); refine blk_put (cs := #[.int .i64 t23, .int .i64 t24, .string (⟨#[]⟩ : ByteArray)]) ?_ 2 _ rfl; (with_reducible repeat (first | refine zL ?_ _ | refine zN ?_ | refine zM ?_ _)); refine blk_put (cs := #[.int .i64 t23, .int .i64 0, .string (⟨#[]⟩ : ByteArray)]) ?_ 1 _ rfl; (with_reducible repeat (first | refine zL ?_ _ | refine zN ?_ | refine zM ?_ _)); refine blk_put (cs := #[.int .i64 0, .int .i64 0, .string (⟨#[]⟩ : ByteArray)]) ?_ 0 _ rfl; (with_reducible repeat (first | refine zL ?_ _ | refine zN ?_ | refine zM ?_ _)); refine blk_far ?_ NB22_28.out _; (with_reducible repeat (first | refine zL ?_ _ | refine zN ?_ | refine zM ?_ _)); refine blk_far ?_ NB22_28.out _; (with_reducible repeat (first | refine zL ?_ _ | refine zN ?_ | refine zM ?_ _)); refine blk_far ?_ NB22_28.out _; (with_reducible repeat (first | refine zL ?_ _ | refine zN ?_ | refine zM ?_ _)); exact BK22.out) Tryd.underlying27 rfl (by kernel_rfl)) rfl ?_; exact ⟨by first | rfl | (simp <;> rfl) | (simp [*] <;> rfl), by repeat (first | (with_reducible first | exact HB.out | apply zH | apply zF | apply zG | refine zI ?_ GE22.out | refine zI ?_ GE28.out) | exact HB.out)⟩
def spec_DrawGoodValue.f (l0 : List Int) : Option (Int × Int × ByteArray) := (spec_l1Cur_value.f l0 0 0).bind fun bt10 => (some (bt10.1, bt10.2.1, bt10.2.2.1))
theorem spec_DrawGoodValue.calls (A0 : Option Addr) (c0 : Nat) (l0 : List Int) (r1 : Int) (r2 : Int) (r3 : ByteArray) (w : World) (hr0 : Kd.C (Kd.int .u8) w A0 l0.length l0) (hc0 : l0.length ≤ c0) (h : spec_DrawGoodValue.f l0 = some (r1, r2, r3)) :
  Calls Tryd.prog 58 #[.slice A0 l0.length c0] w fun e w' => e = .returned (.agg #[.int .i64 r1, .int .i64 r2, .string r3]) ∧ Below w.heap.size w w' := by
 have hu27 := Tryd.underlying27; have hu77 := Tryd.underlying77; have HR0 := zA hr0; have HC0 := zA hc0; clear hr0 hc0; have HB := zA (Below.refl w.heap.size w); have H : ((spec_l1Cur_value.f l0 0 0).bind fun bt10 => (some (bt10.1, bt10.2.1, bt10.2.2.1))) = some (r1, r2, r3) := h; clear h; replace H := zAF H; obtain ⟨⟨t10, t11, t12, t13, t14⟩, A20, H⟩ := H; replace H : (some (t10, t11, t12)) = some (r1, r2, r3) := H; have A2 := zA A20; clear A20; simp only [Option.some.injEq, Prod.mk.injEq] at H; obtain ⟨rfl, rfl, rfl⟩ := H; go_enter Tryd.func58, Tryd.ntmps58; go_wp2_with (first | ((with_reducible refine gate_dst (N := 2) rfl ?_); refine box_event ?hg (N := 2) ?hd (cs := #[.int .i64 0, .int .i64 0, .string (⟨#[]⟩ : ByteArray)]) (t := 27) ?hr ?_; (case hd => rfl); (case hg => rfl); (case hr => first | (go_simp; done) | (go_simp; rfl)); intro gb15 hg w3 hbox hb; have n0_ := zA (zAD (by (with_reducible repeat first | exact HB.out | apply zH | apply zF | apply zG) <;> exact HB.out) hb); have n1_ := zA (hbox); have n2_ := zA ((by rw [hg]; exact (zAE (by (with_reducible repeat first | exact HB.out | apply zH | apply zF | apply zG) <;> exact HB.out)) : w.heap.size ≤ gb15)); have n3_ := zA ((by rw [hg]; exact (zAE (by (with_reducible repeat first | exact HB.out | apply zH | apply zF | apply zG) <;> exact HB.out)) : w.heap.size ≤ gb15)); clear HB; have HB := n0_; have BK15 := n1_; have GW15 := n2_; have GE15 := n3_; clear n0_ n1_ n2_ n3_; clear hb hbox hg) | ((with_reducible refine gate_dst (N := 6) rfl ?_); refine box_event ?hg (N := 6) ?hd (cs := #[.slice A0 l0.length c0, .int .i64 0, .int .u64 0]) (t := 77) ?hr ?_; (case hd => rfl); (case hg => rfl); (case hr => first | (go_simp; done) | (go_simp; rfl)); intro gb16 hg w4 hbox hb; have n0_ := zA (yE (g := gb15) (o := .cells #[.int .i64 0, .int .i64 0, .string (⟨#[]⟩ : ByteArray)] 27 (0, 0)) (by (with_reducible repeat (first | refine zL ?_ _ | refine zN ?_ | refine zM ?_ _)); exact BK15.out) hb); have n1_ := zA (zAD (by repeat (first | (with_reducible first | exact HB.out | apply zH | apply zF | apply zG | refine zI ?_ GE15.out) | exact HB.out)) hb); have n2_ := zA ((show I77 w w4 gb16 l0 0 0 from ⟨A0, c0, hbox, (by rw [hg]; exact (zAE (by repeat (first | (with_reducible first | exact HB.out | apply zH | apply zF | apply zG | refine zI ?_ GE15.out) | exact HB.out))) : w.heap.size ≤ gb16), HR0.out⟩)); have n3_ := zA ((by rw [hg]; exact zK (blk_lt (g := gb15) (o := .cells #[.int .i64 0, .int .i64 0, .string (⟨#[]⟩ : ByteArray)] 27 (0, 0)) (by (with_reducible repeat (first | refine zL ?_ _ | refine zN ?_ | refine zM ?_ _)); exact BK15.out)) : gb15 ≠ gb16)); have n4_ := zA ((by rw [hg]; exact Nat.ne_of_gt (blk_lt (g := gb15) (o := .cells #[.int .i64 0, .int .i64 0, .string (⟨#[]⟩ : ByteArray)] 27 (0, 0)) (by (with_reducible repeat (first | refine zL ?_ _ | refine zN ?_ | refine zM ?_ _)); exact BK15.out)) : gb16 ≠ gb15)); clear BK15; clear HB; have BK15 := n0_; have HB := n1_; have HI16 := n2_; have NB15_16 := n3_; have NB16_15 := n4_; clear n0_ n1_ n2_ n3_ n4_; clear hb hbox hg) | ((with_reducible refine yB (f := 50) rfl ?_); refine goesL_ (some 8) rfl rfl Tryd.func50 (by kernel_rfl) rfl #[.pointer (some ⟨gb16, 0, none⟩)] rfl (by (try simp only [zAA, zAB, zAC]); first | done | rfl) ?_; (with_reducible refine (spec_l1Cur_value.calls gb16 l0 0 0 t10 t11 t12 t13 t14 w _ ?side1 ?side2 A2.out).mono ?_); (case side1 => repeat (first | (with_reducible first | exact HI16.out | apply I77.a | apply I77.n | apply I77.d | apply I77.s1 | apply I77.s2 | refine I77.far ?_ NB16_15.out _) | exact HI16.out)); (case side2 => repeat (first | (with_reducible first | exact HB.out | apply zH | apply zF | apply zG | refine zI ?_ (I77.ge HI16.out) | refine zI ?_ GE15.out) | exact HB.out)); rintro e w5 ⟨rfl, hi, hb, hk⟩; refine ⟨_, rfl, ?_⟩; have n0_ := zA (KeepBut.blk hk (g' := gb15) (o := .cells #[.int .i64 0, .int .i64 0, .string (⟨#[]⟩ : ByteArray)] 27 (0, 0)) (by (with_reducible repeat (first | refine zL ?_ _ | refine zN ?_ | refine zM ?_ _)); exact BK15.out) NB15_16.out (by simp)); have n1_ := zA (hb); have n2_ := zA (hi); clear BK15; clear HB; clear HI16; have BK15 := n0_; have HB := n1_; have HI16 := n2_; clear n0_ n1_ n2_; (try clear hb); (try clear hk); (try clear hi); have hnb6 := NB15_16.out; have hnc6 := NB16_15.out; have hcz7_0 : w5.cell? ⟨gb15, 0, none⟩ = some (.int .i64 0) := (zP BK15.out 0).trans rfl; have hcz7_1 : w5.cell? ⟨gb15, 1, none⟩ = some (.int .i64 0) := (zP BK15.out 1).trans rfl; have hcz7_2 : w5.cell? ⟨gb15, 2, none⟩ = some (.string (⟨#[]⟩ : ByteArray)) := (zP BK15.out 2).trans rfl; have hfz7_0 := zO BK15.out 0; have hfz7_1 := zO BK15.out 1; have hfz7_2 := zO BK15.out 2)); refine bodyPost_ret (results_cell_row rfl _ _ gb15 27 #[.int .i64 t10, .int .i64 t11, .string t12] (0, 0) _ rfl (by (with_reducible repeat (first | refine zL ?_ _ | refine zN ?_ | refine zM ?_ _)); refine blk_put (cs := #[.int .i64 t10, .int .i64 t11, .string (⟨#[]⟩ : ByteArray)]) ?_ 2 _ rfl; (with_reducible repeat (first | refine zL ?_ _ | refine zN ?_ | refine zM ?_ _)); refine blk_put (cs := #[.int .i64 t10, .int .i64 0, .string (⟨#[]⟩ : ByteArray)]) ?_ 1 _ rfl; (with_reducible repeat (first | refine zL ?_ _ | refine zN ?_ | refine zM ?_ _)); refine blk_put (cs := #[.int .i64 0, .int .i64 0, .string (⟨#[]⟩ : ByteArray)]) ?_ 0 _ rfl; (with_reducible repeat (first | refine zL ?_ _ | refine zN ?_ | refine zM ?_ _)); exact BK15.out) Tryd.underlying27 rfl (by kernel_rfl)) rfl ?_
 exact ⟨by first | rfl | (simp <;> rfl) | (simp [*] <;> rfl), by repeat (first | (with_reducible first | exact HB.out | apply zH | apply zF | apply zG | refine zI ?_ (I77.ge HI16.out) | refine zI ?_ GE15.out) | exact HB.out)⟩
def spec_DrawValueBytes.f (l0 : List Int) : Option (Int × Int × ByteArray) := (spec_DrawGoodValue.f l0).bind fun bt10 => (some (bt10.1, bt10.2.1, bt10.2.2))
theorem spec_DrawValueBytes.calls (A0 : Option Addr) (c0 : Nat) (l0 : List Int) (r1 : Int) (r2 : Int) (r3 : ByteArray) (w : World) (hr0 : Kd.C (Kd.int .u8) w A0 l0.length l0) (hc0 : l0.length ≤ c0) (h : spec_DrawValueBytes.f l0 = some (r1, r2, r3)) :
  Calls Tryd.prog 33 #[.slice A0 l0.length c0] w fun e w' => e = .returned (.agg #[.int .i64 r1, .int .i64 r2, .string r3]) ∧ Below w.heap.size w w' := by
 have hu27 := Tryd.underlying27; have HR0 := zA hr0; have HC0 := zA hc0; clear hr0 hc0; have HB := zA (Below.refl w.heap.size w); have H : ((spec_DrawGoodValue.f l0).bind fun bt10 => (some (bt10.1, bt10.2.1, bt10.2.2))) = some (r1, r2, r3) := h; clear h; replace H := zAF H; obtain ⟨⟨t10, t11, t12⟩, A20, H⟩ := H; replace H : (some (t10, t11, t12)) = some (r1, r2, r3) := H; have A2 := zA A20; clear A20; simp only [Option.some.injEq, Prod.mk.injEq] at H; obtain ⟨rfl, rfl, rfl⟩ := H; go_enter Tryd.func33, Tryd.ntmps33; go_wp2_with (first | ((with_reducible refine gate_dst (N := 2) rfl ?_); refine box_event ?hg (N := 2) ?hd (cs := #[.int .i64 0, .int .i64 0, .string (⟨#[]⟩ : ByteArray)]) (t := 27) ?hr ?_; (case hd => rfl); (case hg => rfl); (case hr => first | (go_simp; done) | (go_simp; rfl)); intro gb13 hg w3 hbox hb; have n0_ := zA (zAD (by (with_reducible repeat first | exact HB.out | apply zH | apply zF | apply zG) <;> exact HB.out) hb); have n1_ := zA (hbox); have n2_ := zA ((by rw [hg]; exact (zAE (by (with_reducible repeat first | exact HB.out | apply zH | apply zF | apply zG) <;> exact HB.out)) : w.heap.size ≤ gb13)); have n3_ := zA ((by rw [hg]; exact (zAE (by (with_reducible repeat first | exact HB.out | apply zH | apply zF | apply zG) <;> exact HB.out)) : w.heap.size ≤ gb13)); clear HB; have HB := n0_; have BK13 := n1_; have GW13 := n2_; have GE13 := n3_; clear n0_ n1_ n2_ n3_; clear hb hbox hg) | ((with_reducible refine yB (f := 58) rfl ?_); refine goesL_ (some 4) rfl rfl Tryd.func58 (by kernel_rfl) rfl #[.slice A0 l0.length c0] rfl (by (try simp only [zAA, zAB, zAC]); first | done | rfl | (simp only [zZ, zY]; rfl)) ?_; (with_reducible refine (spec_DrawGoodValue.calls _ _ l0 t10 t11 t12 _ ?side1 ?side2 A2.out).mono ?_); (case side1 => repeat (first | exact (Kd.C_below HR0.out HB.out) | (with_reducible refine zT ?_ _) | (with_reducible refine zU ?_ _) | (with_reducible refine zV ?_))); (case side2 => exact HC0.out); rintro e w4 ⟨rfl, hb⟩; refine ⟨_, rfl, ?_⟩; have n0_ := zA (yE (g := gb13) (o := .cells #[.int .i64 0, .int .i64 0, .string (⟨#[]⟩ : ByteArray)] 27 (0, 0)) (by (with_reducible repeat (first | refine zL ?_ _ | refine zN ?_ | refine zM ?_ _)); exact BK13.out) hb); have n1_ := zA (zAD (by repeat (first | (with_reducible first | exact HB.out | apply zH | apply zF | apply zG | refine zI ?_ GE13.out) | exact HB.out)) hb); clear BK13; clear HB; have BK13 := n0_; have HB := n1_; clear n0_ n1_; (try clear hb); have hcz5_0 : w4.cell? ⟨gb13, 0, none⟩ = some (.int .i64 0) := (zP BK13.out 0).trans rfl; have hcz5_1 : w4.cell? ⟨gb13, 1, none⟩ = some (.int .i64 0) := (zP BK13.out 1).trans rfl; have hcz5_2 : w4.cell? ⟨gb13, 2, none⟩ = some (.string (⟨#[]⟩ : ByteArray)) := (zP BK13.out 2).trans rfl; have hfz5_0 := zO BK13.out 0; have hfz5_1 := zO BK13.out 1; have hfz5_2 := zO BK13.out 2)); refine bodyPost_ret (results_cell_row rfl _ _ gb13 27 #[.int .i64 t10, .int .i64 t11, .string t12] (0, 0) _ rfl (by (with_reducible repeat (first | refine zL ?_ _ | refine zN ?_ | refine zM ?_ _)); refine blk_put (cs := #[.int .i64 t10, .int .i64 t11, .string (⟨#[]⟩ : ByteArray)]) ?_ 2 _ rfl; (with_reducible repeat (first | refine zL ?_ _ | refine zN ?_ | refine zM ?_ _)); refine blk_put (cs := #[.int .i64 t10, .int .i64 0, .string (⟨#[]⟩ : ByteArray)]) ?_ 1 _ rfl; (with_reducible repeat (first | refine zL ?_ _ | refine zN ?_ | refine zM ?_ _)); refine blk_put (cs := #[.int .i64 0, .int .i64 0, .string (⟨#[]⟩ : ByteArray)]) ?_ 0 _ rfl; (with_reducible repeat (first | refine zL ?_ _ | refine zN ?_ | refine zM ?_ _)); exact BK13.out) Tryd.underlying27 rfl (by kernel_rfl)) rfl ?_; exact ⟨by first | rfl | (simp <;> rfl) | (simp [*] <;> rfl), by repeat (first | (with_reducible first | exact HB.out | apply zH | apply zF | apply zG | refine zI ?_ GE13.out) | exact HB.out)⟩
end Go.Proofs.YthhkkhnjkoacnaaDoor.PA
end
section
namespace Go.Proofs.YthhkkhnjkoacnaaDoor.PA
open Go.RowKit Go.Proofs.YthhkkhnjkoacnaaDoorW.PrintWords Go.Proofs.YthhkkhnjkoacnaaDoorW.PrintLast Go.Proofs.YthhkkhnjkoacnaaDoorW.PrintMore
attribute [local go_sem] max2_int min2_int max_two min_two max_three min_three max_four min_four
set_option linter.unusedVariables false
set_option linter.unusedSimpArgs false
set_option maxHeartbeats 60000000
set_option maxRecDepth 100000
attribute [local go_sem high] eqA27
mutual
def laws_FnOrder.j0 : Nat → List Int → Int → Bool → Bool → Int → Int → ByteArray → Int → Int → ByteArray → Option (Bool)
 | 0, _, _, _, _, _, _, _, _, _, _ => none
 | k + 1, x1, x7, x8, x72, x10, x12, x14, x15, x16, x17 => if x72 = true then (some false) else (if x8 = true then ((impl_ValueBytes.f x10 x12 x14).bind fun bt18 => ((impl_ValueBytes.f x15 x16 x17).bind fun bt19 => ((impl_CompareValues.f k x15 x16 x17 x10 x12 x14).bind fun bt22 => (if bt18.2 = true then (if bt19.2 = true then ((laws_sameWay.f bt18.1 bt19.1).bind fun t25 => (if t25 = x7 then (if bt22.2 = true then (if bt22.1 = (wrap64 (-x7)) then (laws_FnOrder.j1 k x1 x7 bt18.1 bt19.1 ((x7 == 0) != (x10 == x15 && (x12 == x16 && (x14.toList == x17.toList)))) x10 x12 x14) else (laws_FnOrder.j1 k x1 x7 bt18.1 bt19.1 true x10 x12 x14)) else (laws_FnOrder.j1 k x1 x7 bt18.1 bt19.1 true x10 x12 x14)) else (laws_FnOrder.j1 k x1 x7 bt18.1 bt19.1 true x10 x12 x14))) else (laws_FnOrder.j1 k x1 x7 bt18.1 bt19.1 true x10 x12 x14)) else (laws_FnOrder.j1 k x1 x7 bt18.1 bt19.1 true x10 x12 x14))))) else (laws_FnOrder.j3 k x1))
def laws_FnOrder.j3 : Nat → List Int → Option (Bool)
 | 0, _ => none
 | k + 1, x1 => (spec_DrawReadValue.f k x1).bind fun bt26 => ((impl_ReadValue.f k bt26.1 bt26.2).bind fun bt27 => ((spec_ReadValue.f k bt26.1 bt26.2).bind fun bt28 => ((spec_DrawValueBytes.f x1).bind fun bt29 => ((impl_ValueBytes.f bt29.1 bt29.2.1 bt29.2.2).bind fun bt30 => ((spec_ValueBytes.f k bt29.1 bt29.2.1 bt29.2.2).bind fun bt31 => (if (bt27.2.2.2.2 != bt28.2.2.2.2) = true then (laws_FnOrder.j4 k bt26.1 bt26.2 bt27.2.2.2.1 bt27.2.2.2.2 true bt27.1 bt27.2.1 bt27.2.2.1) else (if (!(bt27.1 == bt28.1) || (!(bt27.2.1 == bt28.2.1) || (!(bt27.2.2.1.toList == bt28.2.2.1.toList)))) = true then (laws_FnOrder.j4 k bt26.1 bt26.2 bt27.2.2.2.1 bt27.2.2.2.2 true bt27.1 bt27.2.1 bt27.2.2.1) else (if bt27.2.2.2.1 = bt28.2.2.2.1 then (if (bt30.2 != bt31.2) = true then (laws_FnOrder.j4 k bt26.1 bt26.2 bt27.2.2.2.1 bt27.2.2.2.2 true bt27.1 bt27.2.1 bt27.2.2.1) else (laws_FnOrder.j4 k bt26.1 bt26.2 bt27.2.2.2.1 bt27.2.2.2.2 (bt30.1.toList != bt31.1.toList) bt27.1 bt27.2.1 bt27.2.2.1)) else (laws_FnOrder.j4 k bt26.1 bt26.2 bt27.2.2.2.1 bt27.2.2.2.2 true bt27.1 bt27.2.1 bt27.2.2.1)))))))))
def laws_FnOrder.j4 : Nat → ByteArray → Int → Int → Bool → Bool → Int → Int → ByteArray → Option (Bool)
 | 0, _, _, _, _, _, _, _, _ => none
 | k + 1, x20, x21, x23, x24, x32, x33, x34, x35 => if x32 = true then (some false) else (if x24 = true then ((impl_ValueBytes.f x33 x34 x35).bind fun bt36 => (if bt36.2 = true then (if 0 ≤ x21 then (if x21 ≤ x23 then (if x23 ≤ (x20.size : Int) then (some ((x20.extract (x21 : Int).toNat (x23 : Int).toNat).toList == bt36.1.toList)) else (none)) else (none)) else (none)) else (some false))) else (some true))
def laws_FnOrder.j1 : Nat → List Int → Int → ByteArray → ByteArray → Bool → Int → Int → ByteArray → Option (Bool)
 | 0, _, _, _, _, _, _, _, _ => none
 | k + 1, x1, x7, x11, x13, x37, x10, x12, x14 => if x37 = true then (some false) else (if x7 = 0 then (laws_FnOrder.j2 k x1 x11 x13 false x10 x12 x14) else (if (x11.size : Int) ≤ (x13.size : Int) then (if 0 ≤ (x11.size : Int) then (laws_FnOrder.j2 k x1 x11 x13 ((x13.extract 0 ((x11.size : Int) : Int).toNat).toList == x11.toList) x10 x12 x14) else (none)) else (laws_FnOrder.j2 k x1 x11 x13 false x10 x12 x14)))
def laws_FnOrder.j2 : Nat → List Int → ByteArray → ByteArray → Bool → Int → Int → ByteArray → Option (Bool)
 | 0, _, _, _, _, _, _, _ => none
 | k + 1, x1, x11, x13, x38, x10, x12, x14 => if x38 = true then (some false) else (if x11.size + x13.size ≤ 9223372036854775807 then ((impl_ReadValue.f k (x11 ++ x13) 0).bind fun bt39 => (if bt39.2.2.2.2 = true then (if (!(bt39.1 == x10) || (!(bt39.2.1 == x12) || (!(bt39.2.2.1.toList == x14.toList)))) = true then (some false) else (if bt39.2.2.2.1 = (x11.size : Int) then (laws_FnOrder.j3 k x1) else (some false))) else (some false))) else (none))
end
def laws_FnOrder.f (k : Nat) (l0 : List Int) (l1 : List Int) : Option (Bool) := if (wrap64 ((l0.length : Int) + (l1.length : Int))) > 1048576 then (some true) else ((spec_DrawCompareValues.f l0).bind fun bt10 => ((impl_CompareValues.f k bt10.1 bt10.2.1 bt10.2.2.1 bt10.2.2.2.1 bt10.2.2.2.2.1 bt10.2.2.2.2.2).bind fun bt11 => ((spec_CompareValues.f bt10.1 bt10.2.1 bt10.2.2.1 bt10.2.2.2.1 bt10.2.2.2.2.1 bt10.2.2.2.2.2).bind fun bt12 => (if (bt11.2 != bt12.2) = true then (laws_FnOrder.j0 k l1 bt11.1 bt11.2 true bt10.1 bt10.2.1 bt10.2.2.1 bt10.2.2.2.1 bt10.2.2.2.2.1 bt10.2.2.2.2.2) else (if bt11.1 = bt12.1 then ((impl_GoodValue.f bt10.1 bt10.2.1 bt10.2.2.1).bind fun t13 => ((spec_GoodValue.f bt10.1 bt10.2.1 bt10.2.2.1).bind fun t14 => (laws_FnOrder.j0 k l1 bt11.1 bt11.2 (t13 != t14) bt10.1 bt10.2.1 bt10.2.2.1 bt10.2.2.2.1 bt10.2.2.2.2.1 bt10.2.2.2.2.2))) else (laws_FnOrder.j0 k l1 bt11.1 bt11.2 true bt10.1 bt10.2.1 bt10.2.2.1 bt10.2.2.2.1 bt10.2.2.2.2.1 bt10.2.2.2.2.2))))))
def laws_FnOrder.T6 : Bool × List (List Nat × List Nat) := (true, [([], []), ([], []), ([0, 1], [0, 1]), ([2], [2]), ([3], [3]), ([3], [3]), ([4, 5, 3], [3, 4, 5]), ([3, 6], [3, 6]), ([7, 3], [7]), ([8], [8]), ([9, 8, 8], [8, 9]), ([8], [8]), ([11, 10, 8], [8, 11]), ([10, 12, 8], [8, 10, 12]), ([8, 13], [8, 13])])
def laws_FnOrder.B6 : List Nat := [0, 0, 3, 7, 15, 15, 63, 127, 255, 511, 1023, 511, 4095, 8191, 16383]
theorem laws_FnOrder.tab6 : rtab .any (opsOf Tryd.f7 6) = laws_FnOrder.T6 := by kernel_rfl
theorem laws_FnOrder.bits6 : waitsOk laws_FnOrder.T6.2 laws_FnOrder.B6 = true := by kernel_rfl
theorem laws_FnOrder.calls (k : Nat) (A0 : Option Addr) (c0 : Nat) (l0 : List Int) (A1 : Option Addr) (c1 : Nat) (l1 : List Int) (r : Bool) (w : World) (hr0 : Kd.C (Kd.int .u8) w A0 l0.length l0) (hc0 : l0.length ≤ c0) (hr1 : Kd.C (Kd.int .u8) w A1 l1.length l1) (hc1 : l1.length ≤ c1) (h : laws_FnOrder.f k l0 l1 = some r) :
  Calls Tryd.prog 7 #[.slice A0 l0.length c0, .slice A1 l1.length c1] w fun e w' => e = .returned (.bool r) ∧ Below w.heap.size w w' := by
 have hu27 := Tryd.underlying27; have HR0 := zA hr0; have HC0 := zA hc0; clear hr0 hc0; have HR1 := zA hr1; have HC1 := zA hc1; clear hr1 hc1; have HB := zA (Below.refl w.heap.size w); have H : (if (wrap64 ((l0.length : Int) + (l1.length : Int))) > 1048576 then (some true) else ((spec_DrawCompareValues.f l0).bind fun bt100 => ((impl_CompareValues.f k bt100.1 bt100.2.1 bt100.2.2.1 bt100.2.2.2.1 bt100.2.2.2.2.1 bt100.2.2.2.2.2).bind fun bt548 => ((spec_CompareValues.f bt100.1 bt100.2.1 bt100.2.2.1 bt100.2.2.2.1 bt100.2.2.2.2.1 bt100.2.2.2.2.2).bind fun bt550 => (if (bt548.2 != bt550.2) = true then (laws_FnOrder.j0 k l1 bt548.1 bt548.2 true bt100.1 bt100.2.1 bt100.2.2.1 bt100.2.2.2.1 bt100.2.2.2.2.1 bt100.2.2.2.2.2) else (if bt548.1 = bt550.1 then ((impl_GoodValue.f bt100.1 bt100.2.1 bt100.2.2.1).bind fun t552 => ((spec_GoodValue.f bt100.1 bt100.2.1 bt100.2.2.1).bind fun t553 => (laws_FnOrder.j0 k l1 bt548.1 bt548.2 (t552 != t553) bt100.1 bt100.2.1 bt100.2.2.1 bt100.2.2.2.1 bt100.2.2.2.2.1 bt100.2.2.2.2.2))) else (laws_FnOrder.j0 k l1 bt548.1 bt548.2 true bt100.1 bt100.2.1 bt100.2.2.1 bt100.2.2.2.1 bt100.2.2.2.2.1 bt100.2.2.2.2.2))))))) = some r := h; clear h
 by_cases c3 : (wrap64 ((l0.length : Int) + (l1.length : Int))) > 1048576
 ·rw [if_pos c3] at H
  have c3b0 : decide (1048576 < (wrap64 ((l0.length : Int) + (l1.length : Int)))) = true := zX c3; clear c3
  as_aux_lemma =>
   obtain rfl := Option.some.inj H; go_enter Tryd.func7, Tryd.ntmps7; go_wp2; go_ret; exact ⟨by first | rfl | (simp <;> rfl) | (simp [*] <;> rfl), by (with_reducible repeat first | exact HB.out | apply zH | apply zF | apply zG) <;> exact HB.out⟩
 ·rw [if_neg c3] at H
  have c3b0 : decide (1048576 < (wrap64 ((l0.length : Int) + (l1.length : Int)))) = false := decide_eq_false c3; clear c3; replace H := zAF H; obtain ⟨⟨t100, t541, t542, t543, t544, t545⟩, A40, H⟩ := H; replace H : ((impl_CompareValues.f k t100 t541 t542 t543 t544 t545).bind fun bt548 => ((spec_CompareValues.f t100 t541 t542 t543 t544 t545).bind fun bt550 => (if (bt548.2 != bt550.2) = true then (laws_FnOrder.j0 k l1 bt548.1 bt548.2 true t100 t541 t542 t543 t544 t545) else (if bt548.1 = bt550.1 then ((impl_GoodValue.f t100 t541 t542).bind fun t552 => ((spec_GoodValue.f t100 t541 t542).bind fun t553 => (laws_FnOrder.j0 k l1 bt548.1 bt548.2 (t552 != t553) t100 t541 t542 t543 t544 t545))) else (laws_FnOrder.j0 k l1 bt548.1 bt548.2 true t100 t541 t542 t543 t544 t545))))) = some r := H; have A4 := zA A40; clear A40; replace H := zAF H; obtain ⟨⟨t548, t549⟩, A50, H⟩ := H; replace H : ((spec_CompareValues.f t100 t541 t542 t543 t544 t545).bind fun bt550 => (if (t549 != bt550.2) = true then (laws_FnOrder.j0 k l1 t548 t549 true t100 t541 t542 t543 t544 t545) else (if t548 = bt550.1 then ((impl_GoodValue.f t100 t541 t542).bind fun t552 => ((spec_GoodValue.f t100 t541 t542).bind fun t553 => (laws_FnOrder.j0 k l1 t548 t549 (t552 != t553) t100 t541 t542 t543 t544 t545))) else (laws_FnOrder.j0 k l1 t548 t549 true t100 t541 t542 t543 t544 t545)))) = some r := H; have A5 := zA A50; clear A50; replace H := zAF H; obtain ⟨⟨t550, t551⟩, A60, H⟩ := H; replace H : (if (t549 != t551) = true then (laws_FnOrder.j0 k l1 t548 t549 true t100 t541 t542 t543 t544 t545) else (if t548 = t550 then ((impl_GoodValue.f t100 t541 t542).bind fun t552 => ((spec_GoodValue.f t100 t541 t542).bind fun t553 => (laws_FnOrder.j0 k l1 t548 t549 (t552 != t553) t100 t541 t542 t543 t544 t545))) else (laws_FnOrder.j0 k l1 t548 t549 true t100 t541 t542 t543 t544 t545))) = some r := H; have A6 := zA A60; clear A60; have HC7 := zA H; clear H; go_enter Tryd.func7, Tryd.ntmps7; go_upto_region 6 with (first | ((with_reducible refine yB (f := 24) rfl ?_); refine goesL_ (some 43) rfl rfl Tryd.func24 (by kernel_rfl) rfl #[.slice A0 l0.length c0] rfl (by (try simp only [zAA, zAB, zAC]); first | done | rfl | (simp only [zZ, zY]; rfl)) ?_; (with_reducible refine (spec_DrawCompareValues.calls _ _ l0 t100 t541 t542 t543 t544 t545 _ ?side1 ?side2 A4.out).mono ?_); (case side1 => repeat (first | exact HR0.out | (with_reducible refine zT ?_ _) | (with_reducible refine zU ?_ _) | (with_reducible refine zV ?_))); (case side2 => exact HC0.out); rintro e w8 ⟨rfl, hb⟩; refine ⟨_, rfl, ?_⟩; have n0_ := zA (zAD (by (with_reducible repeat first | exact HB.out | apply zH | apply zF | apply zG) <;> exact HB.out) hb); clear HB; have HB := n0_; clear n0_; (try clear hb)) | ((with_reducible refine gate_dst (N := 5) rfl ?_); (try (refine gate_guard (by rfl) ?_; dsimp only)); refine box_event ?hg (N := 5) ?hd (cs := #[.int .i64 0, .int .i64 0, .string (⟨#[]⟩ : ByteArray)]) (t := 27) ?hr ?_; (case hd => rfl); (case hg => rfl); (case hr => first | (go_simp; done) | (go_simp; rfl)); intro gb546 hg w9 hbox hb; have n0_ := zA (zAD (by (with_reducible repeat first | exact HB.out | apply zH | apply zF | apply zG) <;> exact HB.out) hb); have n1_ := zA (hbox); have n2_ := zA ((by rw [hg]; exact (zAE (by (with_reducible repeat first | exact HB.out | apply zH | apply zF | apply zG) <;> exact HB.out)) : w.heap.size ≤ gb546)); have n3_ := zA ((by rw [hg]; exact (zAE (by (with_reducible repeat first | exact HB.out | apply zH | apply zF | apply zG) <;> exact HB.out)) : w.heap.size ≤ gb546)); clear HB; have HB := n0_; have BK546 := n1_; have GW546 := n2_; have GE546 := n3_; clear n0_ n1_ n2_ n3_; clear hb hbox hg) | ((with_reducible refine gate_dst (N := 6) rfl ?_); (try (refine gate_guard (by rfl) ?_; dsimp only)); refine box_event ?hg (N := 6) ?hd (cs := #[.int .i64 0, .int .i64 0, .string (⟨#[]⟩ : ByteArray)]) (t := 27) ?hr ?_; (case hd => rfl); (case hg => rfl); (case hr => first | (go_simp; done) | (go_simp; rfl)); intro gb547 hg w10 hbox hb; have n0_ := zA (yE (g := gb546) (o := .cells #[.int .i64 0, .int .i64 0, .string (⟨#[]⟩ : ByteArray)] 27 (0, 0)) (by (with_reducible repeat (first | refine zL ?_ _ | refine zN ?_ | refine zM ?_ _)); exact BK546.out) hb); have n1_ := zA (zAD (by repeat (first | (with_reducible first | exact HB.out | apply zH | apply zF | apply zG | refine zI ?_ GE546.out) | exact HB.out)) hb); have n2_ := zA (hbox); have n3_ := zA ((by rw [hg]; exact (zAE (by repeat (first | (with_reducible first | exact HB.out | apply zH | apply zF | apply zG | refine zI ?_ GE546.out) | exact HB.out))) : w.heap.size ≤ gb547)); have n4_ := zA ((by rw [hg]; exact (zAE (by repeat (first | (with_reducible first | exact HB.out | apply zH | apply zF | apply zG | refine zI ?_ GE546.out) | exact HB.out))) : w.heap.size ≤ gb547)); have n5_ := zA ((by rw [hg]; exact zK (blk_lt (g := gb546) (o := .cells #[.int .i64 0, .int .i64 0, .string (⟨#[]⟩ : ByteArray)] 27 (0, 0)) (by (with_reducible repeat (first | refine zL ?_ _ | refine zN ?_ | refine zM ?_ _)); exact BK546.out)) : gb546 ≠ gb547)); have n6_ := zA ((by rw [hg]; exact Nat.ne_of_gt (blk_lt (g := gb546) (o := .cells #[.int .i64 0, .int .i64 0, .string (⟨#[]⟩ : ByteArray)] 27 (0, 0)) (by (with_reducible repeat (first | refine zL ?_ _ | refine zN ?_ | refine zM ?_ _)); exact BK546.out)) : gb547 ≠ gb546)); clear BK546; clear HB; have BK546 := n0_; have HB := n1_; have BK547 := n2_; have GW547 := n3_; have GE547 := n4_; have NB546_547 := n5_; have NB547_546 := n6_; clear n0_ n1_ n2_ n3_ n4_ n5_ n6_; clear hb hbox hg; have hnb11 := NB546_547.out; have hnc11 := NB547_546.out; have hcz12_0 : w10.cell? ⟨gb546, 0, none⟩ = some (.int .i64 0) := (zP BK546.out 0).trans rfl; have hcz12_1 : w10.cell? ⟨gb546, 1, none⟩ = some (.int .i64 0) := (zP BK546.out 1).trans rfl; have hcz12_2 : w10.cell? ⟨gb546, 2, none⟩ = some (.string (⟨#[]⟩ : ByteArray)) := (zP BK546.out 2).trans rfl; have hfz12_0 := zO BK546.out 0; have hfz12_1 := zO BK546.out 1; have hfz12_2 := zO BK546.out 2; have hcz13_0 : w10.cell? ⟨gb547, 0, none⟩ = some (.int .i64 0) := (zP BK547.out 0).trans rfl; have hcz13_1 : w10.cell? ⟨gb547, 1, none⟩ = some (.int .i64 0) := (zP BK547.out 1).trans rfl; have hcz13_2 : w10.cell? ⟨gb547, 2, none⟩ = some (.string (⟨#[]⟩ : ByteArray)) := (zP BK547.out 2).trans rfl; have hfz13_0 := zO BK547.out 0; have hfz13_1 := zO BK547.out 1; have hfz13_2 := zO BK547.out 2) | ((with_reducible refine yB (f := 25) rfl ?_); refine goesL_ (some 49) rfl rfl Tryd.func25 (by kernel_rfl) rfl #[.agg #[.int .i64 t100, .int .i64 t541, .string t542], .agg #[.int .i64 t543, .int .i64 t544, .string t545]] rfl (by (try simp only [zAA, zAB, zAC]); first | done | rfl) ?_; (with_reducible refine (impl_CompareValues.calls k t100 t541 t542 t543 t544 t545 t548 t549 _ A5.out).mono ?_); rintro e w14 ⟨rfl, hb⟩; refine ⟨_, rfl, ?_⟩; have n0_ := zA (yE (g := gb546) (o := .cells #[.int .i64 t100, .int .i64 t541, .string t542] 27 (0, 0)) (by (with_reducible repeat (first | refine zL ?_ _ | refine zN ?_ | refine zM ?_ _)); refine blk_far ?_ NB546_547.out _; (with_reducible repeat (first | refine zL ?_ _ | refine zN ?_ | refine zM ?_ _)); refine blk_far ?_ NB546_547.out _; (with_reducible repeat (first | refine zL ?_ _ | refine zN ?_ | refine zM ?_ _)); refine blk_far ?_ NB546_547.out _; (with_reducible repeat (first | refine zL ?_ _ | refine zN ?_ | refine zM ?_ _)); refine blk_put (cs := #[.int .i64 t100, .int .i64 t541, .string (⟨#[]⟩ : ByteArray)]) ?_ 2 _ rfl; (with_reducible repeat (first | refine zL ?_ _ | refine zN ?_ | refine zM ?_ _)); refine blk_put (cs := #[.int .i64 t100, .int .i64 0, .string (⟨#[]⟩ : ByteArray)]) ?_ 1 _ rfl; (with_reducible repeat (first | refine zL ?_ _ | refine zN ?_ | refine zM ?_ _)); refine blk_put (cs := #[.int .i64 0, .int .i64 0, .string (⟨#[]⟩ : ByteArray)]) ?_ 0 _ rfl; (with_reducible repeat (first | refine zL ?_ _ | refine zN ?_ | refine zM ?_ _)); exact BK546.out) hb); have n1_ := zA (yE (g := gb547) (o := .cells #[.int .i64 t543, .int .i64 t544, .string t545] 27 (0, 0)) (by (with_reducible repeat (first | refine zL ?_ _ | refine zN ?_ | refine zM ?_ _)); refine blk_put (cs := #[.int .i64 t543, .int .i64 t544, .string (⟨#[]⟩ : ByteArray)]) ?_ 2 _ rfl; (with_reducible repeat (first | refine zL ?_ _ | refine zN ?_ | refine zM ?_ _)); refine blk_put (cs := #[.int .i64 t543, .int .i64 0, .string (⟨#[]⟩ : ByteArray)]) ?_ 1 _ rfl; (with_reducible repeat (first | refine zL ?_ _ | refine zN ?_ | refine zM ?_ _)); refine blk_put (cs := #[.int .i64 0, .int .i64 0, .string (⟨#[]⟩ : ByteArray)]) ?_ 0 _ rfl; (with_reducible repeat (first | refine zL ?_ _ | refine zN ?_ | refine zM ?_ _)); refine blk_far ?_ NB547_546.out _; (with_reducible repeat (first | refine zL ?_ _ | refine zN ?_ | refine zM ?_ _)); refine blk_far ?_ NB547_546.out _; (with_reducible repeat (first | refine zL ?_ _ | refine zN ?_ | refine zM ?_ _)); refine blk_far ?_ NB547_546.out _; (with_reducible repeat (first | refine zL ?_ _ | refine zN ?_ | refine zM ?_ _)); exact BK547.out) hb); have n2_ := zA (zAD (by repeat (first | (with_reducible first | exact HB.out | apply zH | apply zF | apply zG | refine zI ?_ GE546.out | refine zI ?_ GE547.out) | exact HB.out)) hb); clear BK546; clear BK547; clear HB; have BK546 := n0_; have BK547 := n1_; have HB := n2_; clear n0_ n1_ n2_; (try clear hb); have hcz15_0 : w14.cell? ⟨gb546, 0, none⟩ = some (.int .i64 t100) := (zP BK546.out 0).trans rfl; have hcz15_1 : w14.cell? ⟨gb546, 1, none⟩ = some (.int .i64 t541) := (zP BK546.out 1).trans rfl; have hcz15_2 : w14.cell? ⟨gb546, 2, none⟩ = some (.string t542) := (zP BK546.out 2).trans rfl; have hfz15_0 := zO BK546.out 0; have hfz15_1 := zO BK546.out 1; have hfz15_2 := zO BK546.out 2; have hcz16_0 : w14.cell? ⟨gb547, 0, none⟩ = some (.int .i64 t543) := (zP BK547.out 0).trans rfl; have hcz16_1 : w14.cell? ⟨gb547, 1, none⟩ = some (.int .i64 t544) := (zP BK547.out 1).trans rfl; have hcz16_2 : w14.cell? ⟨gb547, 2, none⟩ = some (.string t545) := (zP BK547.out 2).trans rfl; have hfz16_0 := zO BK547.out 0; have hfz16_1 := zO BK547.out 1; have hfz16_2 := zO BK547.out 2) | ((with_reducible refine yB (f := 26) rfl ?_); refine goesL_ (some 55) rfl rfl Tryd.func26 (by kernel_rfl) rfl #[.agg #[.int .i64 t100, .int .i64 t541, .string t542], .agg #[.int .i64 t543, .int .i64 t544, .string t545]] rfl (by (try simp only [zAA, zAB, zAC]); first | done | rfl) ?_; (with_reducible refine (spec_CompareValues.calls t100 t541 t542 t543 t544 t545 t550 t551 _ A6.out).mono ?_); rintro e w17 ⟨rfl, hb⟩; refine ⟨_, rfl, ?_⟩; have n0_ := zA (yE (g := gb546) (o := .cells #[.int .i64 t100, .int .i64 t541, .string t542] 27 (0, 0)) (by (with_reducible repeat (first | refine zL ?_ _ | refine zN ?_ | refine zM ?_ _)); exact BK546.out) hb); have n1_ := zA (yE (g := gb547) (o := .cells #[.int .i64 t543, .int .i64 t544, .string t545] 27 (0, 0)) (by (with_reducible repeat (first | refine zL ?_ _ | refine zN ?_ | refine zM ?_ _)); exact BK547.out) hb); have n2_ := zA (zAD (by repeat (first | (with_reducible first | exact HB.out | apply zH | apply zF | apply zG | refine zI ?_ GE546.out | refine zI ?_ GE547.out) | exact HB.out)) hb); clear BK546; clear BK547; clear HB; have BK546 := n0_; have BK547 := n1_; have HB := n2_; clear n0_ n1_ n2_; (try clear hb)))
  (try simp only [Act.put, zC, zD, zE]); go_cut [72] (fun v72 wc => ∃ (kq : Nat) (x72_6 : Bool), v72 = .bool x72_6 ∧ Aside0 (laws_FnOrder.j0 kq l1 t548 t549 x72_6 t100 t541 t542 t543 t544 t545 = some r) ∧ Aside0 (kq ≤ k) ∧ Aside0 (wc.heap[gb546]? = some (.cells #[.int .i64 t100, .int .i64 t541, .string t542] 27 (0, 0))) ∧ Aside0 (wc.heap[gb547]? = some (.cells #[.int .i64 t543, .int .i64 t544, .string t545] 27 (0, 0))) ∧ Aside0 (Below w.heap.size w wc))
  case first =>
   have H := HC7.out; clear HC7
   by_cases c18 : (t549 != t551) = true
   ·rw [if_pos c18] at H
    have c18b0 : (t549 != t551) = true := c18; (try (have c18b1 : decide (t549 = t551) = false := by simpa using c18)); (try (have c18b2 : (t549 == t551) = false := by simpa using c18)); (try (have c18b3 : ¬ (t549 = t551) := by simpa using c18)); clear c18; (first | rw [c18b0] | (simp only [i64_w, i32_w]; rw [c18b0]) | skip)
    as_aux_lemma =>
     have H' := zA H; clear H
     try go_wp2
     have n0_ := zA (zN BK546.out); have n1_ := zA (zN BK547.out); have n2_ := zA (zG HB.out); clear BK546 BK547 HB; have BK546 := n0_; have BK547 := n1_; have HB := n2_; clear n0_ n1_ n2_; refine start_ (n := 15) (S := fun w' => True) (ds := []) #[false, false, false, false, false, false, false, false, false, false, false, false, false, false, false] (by kernel_rfl) rfl rfl trivial (fun hHeld => ?_); refine with_tabW laws_FnOrder.tab6 laws_FnOrder.bits6 (fun HT_ HW_ => ?_); generalize w17.drew = w19 at BK546 BK547 HB hHeld ⊢; refine pure_ (i := 0) (N := some 58) (v := ?_) (a' := ?_) #[true, false, false, false, false, false, false, false, false, false, false, false, false, false, false] rfl rfl (any_of HT_.out (by kernel_rfl)) (fun _ _ _ h => h) (Or.inl ⟨by rfl, ?_⟩) ?_ ?_; rotate_left
     ·intro w'
      go_simp
      with_reducible rfl
     rotate_left
     ·simp only [Act.put, zC, zD, zE, i64_w]
      rfl
     refine pure_ (i := 1) (N := some 59) (v := ?_) (a' := ?_) #[true, true, false, false, false, false, false, false, false, false, false, false, false, false, false] rfl rfl (any_of HT_.out (by kernel_rfl)) (fun _ _ _ h => h) (Or.inl ⟨by rfl, ?_⟩) ?_ ?_; rotate_left
     ·intro w'
      go_simp
      with_reducible rfl
     rotate_left
     ·simp only [Act.put, zC, zD, zE, i64_w]
      rfl
     refine pure_ (i := 2) (N := some 60) (v := ?_) (a' := ?_) #[true, true, true, false, false, false, false, false, false, false, false, false, false, false, false] rfl rfl (any_of HT_.out (by kernel_rfl)) (fun _ _ _ h => h) (Or.inl ⟨by rfl, ?_⟩) ?_ ?_; rotate_left
     ·intro w'
      go_simp
      with_reducible rfl
     rotate_left
     ·simp only [Act.put, zC, zD, zE, i64_w]
      rfl
     refine pure_ (i := 3) (N := some 61) (v := ?_) (a' := ?_) #[true, true, true, true, false, false, false, false, false, false, false, false, false, false, false] rfl rfl (any_of HT_.out (by kernel_rfl)) (fun _ _ _ h => h) (Or.inl ⟨by rfl, ?_⟩) ?_ ?_; rotate_left
     ·intro w'
      go_simp
      with_reducible rfl
     rotate_left
     ·simp only [Act.put, zC, zD, zE, i64_w]
      rfl
     refine pure_ (i := 4) (N := some 62) (v := undef) (a' := ?_) #[true, true, true, true, true, false, false, false, false, false, false, false, false, false, false] rfl rfl (any_of HT_.out (by kernel_rfl)) (fun _ _ _ h => h) (Or.inr ⟨by rfl, rfl⟩) ?_ ?_; rotate_left
     ·simp only [Act.put, zC, zD, zE, i64_w]
      rfl
     refine pure_ (i := 5) (N := some 63) (v := undef) (a' := ?_) #[true, true, true, true, true, true, false, false, false, false, false, false, false, false, false] rfl rfl (any_of HT_.out (by kernel_rfl)) (fun _ _ _ h => h) (Or.inr ⟨by rfl, rfl⟩) ?_ ?_; rotate_left
     ·simp only [Act.put, zC, zD, zE, i64_w]
      rfl
     refine pure_ (i := 6) (N := some 64) (v := undef) (a' := ?_) #[true, true, true, true, true, true, true, false, false, false, false, false, false, false, false] rfl rfl (any_of HT_.out (by kernel_rfl)) (fun _ _ _ h => h) (Or.inr ⟨by rfl, rfl⟩) ?_ ?_; rotate_left
     ·simp only [Act.put, zC, zD, zE, i64_w]
      rfl
     refine pure_ (i := 7) (N := some 65) (v := ?_) (a' := ?_) #[true, true, true, true, true, true, true, true, false, false, false, false, false, false, false] rfl rfl (any_of HT_.out (by kernel_rfl)) (fun _ _ _ h => h) (Or.inl ⟨by rfl, ?_⟩) ?_ ?_; rotate_left
     ·intro w'
      go_simp
      with_reducible rfl
     rotate_left
     ·simp only [Act.put, zC, zD, zE, i64_w]
      rfl
     refine pure_ (i := 8) (N := some 66) (v := ?_) (a' := ?_) #[true, true, true, true, true, true, true, true, true, false, false, false, false, false, false] rfl rfl (any_of HT_.out (by kernel_rfl)) (fun _ _ _ h => h) (Or.inl ⟨by rfl, ?_⟩) ?_ ?_; rotate_left
     ·intro w'
      go_simp
      with_reducible rfl
     rotate_left
     ·simp only [Act.put, zC, zD, zE, i64_w]
      rfl
     refine pure_ (i := 9) (N := some 67) (v := undef) (a' := ?_) #[true, true, true, true, true, true, true, true, true, true, false, false, false, false, false] rfl rfl (any_of HT_.out (by kernel_rfl)) (fun _ _ _ h => h) (Or.inr ⟨by rfl, rfl⟩) ?_ ?_; rotate_left
     ·simp only [Act.put, zC, zD, zE, i64_w]
      rfl
     refine pure_ (i := 10) (N := some 68) (v := undef) (a' := ?_) #[true, true, true, true, true, true, true, true, true, true, true, false, false, false, false] rfl rfl (any_of HT_.out (by kernel_rfl)) (fun _ _ _ h => h) (Or.inr ⟨by rfl, rfl⟩) ?_ ?_; rotate_left
     ·simp only [Act.put, zC, zD, zE, i64_w]
      rfl
     refine pure_ (i := 11) (N := some 69) (v := undef) (a' := ?_) #[true, true, true, true, true, true, true, true, true, true, true, true, false, false, false] rfl rfl (any_of HT_.out (by kernel_rfl)) (fun _ _ _ h => h) (Or.inr ⟨by rfl, rfl⟩) ?_ ?_; rotate_left
     ·simp only [Act.put, zC, zD, zE, i64_w]
      rfl
     refine pure_ (i := 12) (N := some 70) (v := undef) (a' := ?_) #[true, true, true, true, true, true, true, true, true, true, true, true, true, false, false] rfl rfl (any_of HT_.out (by kernel_rfl)) (fun _ _ _ h => h) (Or.inr ⟨by rfl, rfl⟩) ?_ ?_; rotate_left
     ·simp only [Act.put, zC, zD, zE, i64_w]
      rfl
     refine pure_ (i := 13) (N := some 71) (v := undef) (a' := ?_) #[true, true, true, true, true, true, true, true, true, true, true, true, true, true, false] rfl rfl (any_of HT_.out (by kernel_rfl)) (fun _ _ _ h => h) (Or.inr ⟨by rfl, rfl⟩) ?_ ?_; rotate_left
     ·simp only [Act.put, zC, zD, zE, i64_w]
      rfl
     refine pure_ (i := 14) (N := some 72) (v := ?_) (a' := ?_) #[true, true, true, true, true, true, true, true, true, true, true, true, true, true, true] rfl rfl (any_of HT_.out (by kernel_rfl)) (fun _ _ _ h => h) (Or.inl ⟨by rfl, ?_⟩) ?_ ?_; rotate_left
     ·intro w'
      go_simp
      with_reducible rfl
     rotate_left
     ·simp only [Act.put, zC, zD, zE, i64_w]
      rfl
     refine done_ (done_of HT_.out (by kernel_rfl)) ?_
     try go_wp2
     go_meet
     case rel => exact ⟨_, (true), (by first | rfl | (simp; done) | (simp [*]; done) | (simp [bne]; done)), H', ⟨by first | omega | exact Nat.le_refl _⟩, ⟨by (with_reducible repeat (first | refine zL ?_ _ | refine zN ?_ | refine zM ?_ _)); exact BK546.out⟩, ⟨by (with_reducible repeat (first | refine zL ?_ _ | refine zN ?_ | refine zM ?_ _)); exact BK547.out⟩, ⟨by repeat (first | (with_reducible first | exact HB.out | apply zH | apply zF | apply zG | refine zI ?_ GE546.out | refine zI ?_ GE547.out) | exact HB.out)⟩⟩
   ·rw [if_neg c18] at H
    have c18b0 : (t549 != t551) = false := by simpa using c18
    (try (have c18b1 : decide (t549 = t551) = true := by simpa using c18)); (try (have c18b2 : (t549 == t551) = true := by simpa using c18)); clear c18; (first | rw [c18b0] | (simp only [i64_w, i32_w]; rw [c18b0]) | skip)
    by_cases c20 : t548 = t550
    ·rw [if_pos c20] at H
     have c20b0 : (t548 == t550) = true := beq_iff_eq.mpr c20; have c20b1 : (t548 != t550) = false := bne_eq_false_iff_eq.mpr c20; clear c20; replace H := zAF H; obtain ⟨t552, A210, H⟩ := H; replace H : ((spec_GoodValue.f t100 t541 t542).bind fun t553 => (laws_FnOrder.j0 k l1 t548 t549 (t552 != t553) t100 t541 t542 t543 t544 t545)) = some r := H; have A21 := zA A210; clear A210; replace H := zAF H; obtain ⟨t553, A220, H⟩ := H; replace H : (laws_FnOrder.j0 k l1 t548 t549 (t552 != t553) t100 t541 t542 t543 t544 t545) = some r := H; have A22 := zA A220; clear A220
     as_aux_lemma =>
      have H' := zA H; clear H
      try go_wp2
      have n0_ := zA (zN BK546.out); have n1_ := zA (zN BK547.out); have n2_ := zA (zG HB.out); clear BK546 BK547 HB; have BK546 := n0_; have BK547 := n1_; have HB := n2_; clear n0_ n1_ n2_; refine start_ (n := 15) (S := fun w' => w'.cell? ⟨gb546, 0, none⟩ = some (.int .i64 t100) ∧ w'.cell? ⟨gb546, 1, none⟩ = some (.int .i64 t541) ∧ w'.cell? ⟨gb546, 2, none⟩ = some (.string t542)) (ds := []) #[false, false, false, false, false, false, false, false, false, false, false, false, false, false, false] (by kernel_rfl) rfl rfl ⟨(zP BK546.out 0).trans rfl, (zP BK546.out 1).trans rfl, (zP BK546.out 2).trans rfl⟩ (fun hHeld => ?_); refine with_tabW laws_FnOrder.tab6 laws_FnOrder.bits6 (fun HT_ HW_ => ?_); generalize w17.drew = w23 at BK546 BK547 HB hHeld ⊢; refine pure_ (i := 0) (N := some 58) (v := ?_) (a' := ?_) #[true, false, false, false, false, false, false, false, false, false, false, false, false, false, false] rfl rfl (any_of HT_.out (by kernel_rfl)) (fun _ _ _ h => h) (Or.inl ⟨by rfl, ?_⟩) ?_ ?_; rotate_left
      ·intro w'
       go_simp
       with_reducible rfl
      rotate_left
      ·simp only [Act.put, zC, zD, zE, i64_w]
       rfl
      refine pure_ (i := 1) (N := some 59) (v := ?_) (a' := ?_) #[true, true, false, false, false, false, false, false, false, false, false, false, false, false, false] rfl rfl (any_of HT_.out (by kernel_rfl)) (fun _ _ _ h => h) (Or.inl ⟨by rfl, ?_⟩) ?_ ?_; rotate_left
      ·intro w'
       go_simp
       with_reducible rfl
      rotate_left
      ·simp only [Act.put, zC, zD, zE, i64_w]
       rfl
      refine pure_ (i := 2) (N := some 60) (v := ?_) (a' := ?_) #[true, true, true, false, false, false, false, false, false, false, false, false, false, false, false] rfl rfl (any_of HT_.out (by kernel_rfl)) (fun _ _ _ h => h) (Or.inl ⟨by rfl, ?_⟩) ?_ ?_; rotate_left
      ·intro w'
       go_simp
       with_reducible rfl
      rotate_left
      ·simp only [Act.put, zC, zD, zE, i64_w]
       rfl
      refine pure_ (i := 3) (N := some 61) (v := ?_) (a' := ?_) #[true, true, true, true, false, false, false, false, false, false, false, false, false, false, false] rfl rfl (any_of HT_.out (by kernel_rfl)) (fun _ _ _ h => h) (Or.inl ⟨by rfl, ?_⟩) ?_ ?_; rotate_left
      ·intro w'
       go_simp
       with_reducible rfl
      rotate_left
      ·simp only [Act.put, zC, zD, zE, i64_w]
       rfl
      refine pure_ (i := 4) (N := some 62) (v := ?_) (a' := ?_) #[true, true, true, true, true, false, false, false, false, false, false, false, false, false, false] rfl rfl (any_of HT_.out (by kernel_rfl)) (fun _ _ _ h => h) (Or.inl ⟨by rfl, ?_⟩) ?_ ?_; rotate_left
      ·intro w'
       go_simp
       with_reducible rfl
      rotate_left
      ·simp only [Act.put, zC, zD, zE, i64_w]
       rfl
      refine pure_ (i := 5) (N := some 63) (v := ?_) (a' := ?_) #[true, true, true, true, true, true, false, false, false, false, false, false, false, false, false] rfl rfl (any_of HT_.out (by kernel_rfl)) (fun _ _ _ h => h) (Or.inl ⟨by rfl, ?_⟩) ?_ ?_; rotate_left
      ·intro w'
       go_simp
       with_reducible rfl
      rotate_left
      ·simp only [Act.put, zC, zD, zE, i64_w]
       rfl
      refine pure_ (i := 6) (N := some 64) (v := ?_) (a' := ?_) #[true, true, true, true, true, true, true, false, false, false, false, false, false, false, false] rfl rfl (any_of HT_.out (by kernel_rfl)) (fun _ _ _ h => h) (Or.inl ⟨by rfl, ?_⟩) ?_ ?_; rotate_left
      ·intro w'
       go_simp
       with_reducible rfl
      rotate_left
      ·simp only [Act.put, zC, zD, zE, i64_w]
       rfl
      refine pure_ (i := 7) (N := some 65) (v := ?_) (a' := ?_) #[true, true, true, true, true, true, true, true, false, false, false, false, false, false, false] rfl rfl (any_of HT_.out (by kernel_rfl)) (fun _ _ _ h => h) (Or.inl ⟨by rfl, ?_⟩) ?_ ?_; rotate_left
      ·intro w'
       go_simp
       with_reducible rfl
      rotate_left
      ·simp only [Act.put, zC, zD, zE, i64_w]
       rfl
      refine pure_ (i := 8) (N := some 66) (v := ?_) (a' := ?_) #[true, true, true, true, true, true, true, true, true, false, false, false, false, false, false] rfl rfl (any_of HT_.out (by kernel_rfl)) (fun _ _ _ h => h) (Or.inl ⟨by rfl, ?_⟩) ?_ ?_; rotate_left
      ·intro w'
       go_simp
       with_reducible rfl
      rotate_left
      ·simp only [Act.put, zC, zD, zE, i64_w]
       rfl
      refine take_ (i := 9) (N := some 67) (v := ?_) (a' := ?_) #[true, true, true, true, true, true, true, true, true, true, false, false, false, false, false] rfl rfl (take_ofW HT_.out HW_.out (by kernel_rfl)) (fun _ _ _ h => h) (Or.inl ⟨by rfl, ?_⟩) hHeld ?_ ?_; rotate_left
      ·rintro w' ⟨s0, s1, s2⟩
       go_simp
       with_reducible rfl
      rotate_left
      ·simp only [Act.put, zC, zD, zE, i64_w]
       rfl
      refine take_ (i := 11) (N := some 69) (v := ?_) (a' := ?_) #[true, true, true, true, true, true, true, true, true, true, false, true, false, false, false] rfl rfl (take_ofW HT_.out HW_.out (by kernel_rfl)) (fun _ _ _ h => h) (Or.inl ⟨by rfl, ?_⟩) hHeld ?_ ?_; rotate_left
      ·rintro w' ⟨s0, s1, s2⟩
       go_simp
       with_reducible rfl
      rotate_left
      ·simp only [Act.put, zC, zD, zE, i64_w]
       rfl
      refine one_ (i := 10) (N := some 68) #[true, true, true, true, true, true, true, true, true, true, true, true, false, false, false] rfl rfl (one_of HT_.out (by kernel_rfl)) (by decide) (fun K hK => ?_); refine goes_ Tryd.func27 (by kernel_rfl) rfl #[.agg #[.int .i64 t100, .int .i64 t541, .string t542]] (by rfl) rfl rfl (by (try simp only [zAA, zAB, zAC]); first | done | rfl) ?_
      with_reducible refine (impl_GoodValue.calls t100 t541 t542 t552 _ A21.out).mono ?_
      rintro e w24 ⟨rfl, hb⟩; refine ⟨_, rfl, ?_⟩; have n0_ := zA (yE (g := gb546) (o := .cells #[.int .i64 t100, .int .i64 t541, .string t542] 27 (0, 0)) (by (with_reducible repeat (first | refine zL ?_ _ | refine zN ?_ | refine zM ?_ _)); exact BK546.out) hb); have n1_ := zA (yE (g := gb547) (o := .cells #[.int .i64 t543, .int .i64 t544, .string t545] 27 (0, 0)) (by (with_reducible repeat (first | refine zL ?_ _ | refine zN ?_ | refine zM ?_ _)); exact BK547.out) hb); have n2_ := zA (zAD (by repeat (first | (with_reducible first | exact HB.out | apply zH | apply zF | apply zG | refine zI ?_ GE546.out | refine zI ?_ GE547.out) | exact HB.out)) hb); clear BK546 BK547 HB; have BK546 := n0_; have BK547 := n1_; have HB := n2_; clear n0_ n1_ n2_; (try clear hb); refine hK.out _ _ ⟨(zP BK546.out 0).trans rfl, (zP BK546.out 1).trans rfl, (zP BK546.out 2).trans rfl⟩ (fun hHeld => ?_); clear hK K; refine norm_ (a' := ?_) ?_ ?_; rotate_left
      ·show Act.put _ (some 68) _ = _
       simp only [Act.put, zC, zD, zE, i64_w]; rfl
      refine one_ (i := 12) (N := some 70) #[true, true, true, true, true, true, true, true, true, true, true, true, true, false, false] rfl rfl (one_of HT_.out (by kernel_rfl)) (by decide) (fun K hK => ?_); refine goes_ Tryd.func28 (by kernel_rfl) rfl #[.agg #[.int .i64 t100, .int .i64 t541, .string t542]] (by rfl) rfl rfl (by (try simp only [zAA, zAB, zAC]); first | done | rfl) ?_
      with_reducible refine (spec_GoodValue.calls t100 t541 t542 t553 _ A22.out).mono ?_
      rintro e w25 ⟨rfl, hb⟩; refine ⟨_, rfl, ?_⟩; have n0_ := zA (yE (g := gb546) (o := .cells #[.int .i64 t100, .int .i64 t541, .string t542] 27 (0, 0)) (by (with_reducible repeat (first | refine zL ?_ _ | refine zN ?_ | refine zM ?_ _)); exact BK546.out) hb); have n1_ := zA (yE (g := gb547) (o := .cells #[.int .i64 t543, .int .i64 t544, .string t545] 27 (0, 0)) (by (with_reducible repeat (first | refine zL ?_ _ | refine zN ?_ | refine zM ?_ _)); exact BK547.out) hb); have n2_ := zA (zAD (by repeat (first | (with_reducible first | exact HB.out | apply zH | apply zF | apply zG | refine zI ?_ GE546.out | refine zI ?_ GE547.out) | exact HB.out)) hb); clear BK546 BK547 HB; have BK546 := n0_; have BK547 := n1_; have HB := n2_; clear n0_ n1_ n2_; (try clear hb); refine hK.out _ _ ⟨(zP BK546.out 0).trans rfl, (zP BK546.out 1).trans rfl, (zP BK546.out 2).trans rfl⟩ (fun hHeld => ?_); clear hK K; refine norm_ (a' := ?_) ?_ ?_; rotate_left
      ·show Act.put _ (some 70) _ = _
       simp only [Act.put, zC, zD, zE, i64_w]; rfl
      refine pure_ (i := 13) (N := some 71) (v := ?_) (a' := ?_) #[true, true, true, true, true, true, true, true, true, true, true, true, true, true, false] rfl rfl (any_of HT_.out (by kernel_rfl)) (fun _ _ _ h => h) (Or.inl ⟨by rfl, ?_⟩) ?_ ?_; rotate_left
      ·intro w'
       go_simp
       with_reducible rfl
      rotate_left
      ·simp only [Act.put, zC, zD, zE, i64_w]
       rfl
      refine pure_ (i := 14) (N := some 72) (v := ?_) (a' := ?_) #[true, true, true, true, true, true, true, true, true, true, true, true, true, true, true] rfl rfl (any_of HT_.out (by kernel_rfl)) (fun _ _ _ h => h) (Or.inl ⟨by rfl, ?_⟩) ?_ ?_; rotate_left
      ·intro w'
       go_simp
       with_reducible rfl
      rotate_left
      ·simp only [Act.put, zC, zD, zE, i64_w]
       rfl
      refine done_ (done_of HT_.out (by kernel_rfl)) ?_
      try go_wp2
      go_meet
      case rel => exact ⟨_, ((t552 != t553)), (by first | rfl | (simp; done) | (simp [*]; done) | (simp [bne]; done)), H', ⟨by first | omega | exact Nat.le_refl _⟩, ⟨by (with_reducible repeat (first | refine zL ?_ _ | refine zN ?_ | refine zM ?_ _)); exact BK546.out⟩, ⟨by (with_reducible repeat (first | refine zL ?_ _ | refine zN ?_ | refine zM ?_ _)); exact BK547.out⟩, ⟨by repeat (first | (with_reducible first | exact HB.out | apply zH | apply zF | apply zG | refine zI ?_ GE546.out | refine zI ?_ GE547.out) | exact HB.out)⟩⟩
    ·rw [if_neg c20] at H
     have c20b0 : (t548 == t550) = false := beq_eq_false_iff_ne.mpr c20; have c20b1 : (t548 != t550) = true := bne_iff_ne.mpr c20
     as_aux_lemma =>
      have H' := zA H; clear H
      try go_wp2
      have n0_ := zA (zN BK546.out); have n1_ := zA (zN BK547.out); have n2_ := zA (zG HB.out); clear BK546 BK547 HB; have BK546 := n0_; have BK547 := n1_; have HB := n2_; clear n0_ n1_ n2_; refine start_ (n := 15) (S := fun w' => True) (ds := []) #[false, false, false, false, false, false, false, false, false, false, false, false, false, false, false] (by kernel_rfl) rfl rfl trivial (fun hHeld => ?_); refine with_tabW laws_FnOrder.tab6 laws_FnOrder.bits6 (fun HT_ HW_ => ?_); generalize w17.drew = w26 at BK546 BK547 HB hHeld ⊢; refine pure_ (i := 0) (N := some 58) (v := ?_) (a' := ?_) #[true, false, false, false, false, false, false, false, false, false, false, false, false, false, false] rfl rfl (any_of HT_.out (by kernel_rfl)) (fun _ _ _ h => h) (Or.inl ⟨by rfl, ?_⟩) ?_ ?_; rotate_left
      ·intro w'
       go_simp
       with_reducible rfl
      rotate_left
      ·simp only [Act.put, zC, zD, zE, i64_w]
       rfl
      refine pure_ (i := 1) (N := some 59) (v := ?_) (a' := ?_) #[true, true, false, false, false, false, false, false, false, false, false, false, false, false, false] rfl rfl (any_of HT_.out (by kernel_rfl)) (fun _ _ _ h => h) (Or.inl ⟨by rfl, ?_⟩) ?_ ?_; rotate_left
      ·intro w'
       go_simp
       with_reducible rfl
      rotate_left
      ·simp only [Act.put, zC, zD, zE, i64_w]
       rfl
      refine pure_ (i := 2) (N := some 60) (v := ?_) (a' := ?_) #[true, true, true, false, false, false, false, false, false, false, false, false, false, false, false] rfl rfl (any_of HT_.out (by kernel_rfl)) (fun _ _ _ h => h) (Or.inl ⟨by rfl, ?_⟩) ?_ ?_; rotate_left
      ·intro w'
       go_simp
       with_reducible rfl
      rotate_left
      ·simp only [Act.put, zC, zD, zE, i64_w]
       rfl
      refine pure_ (i := 3) (N := some 61) (v := ?_) (a' := ?_) #[true, true, true, true, false, false, false, false, false, false, false, false, false, false, false] rfl rfl (any_of HT_.out (by kernel_rfl)) (fun _ _ _ h => h) (Or.inl ⟨by rfl, ?_⟩) ?_ ?_; rotate_left
      ·intro w'
       go_simp
       with_reducible rfl
      rotate_left
      ·simp only [Act.put, zC, zD, zE, i64_w]
       rfl
      refine pure_ (i := 4) (N := some 62) (v := ?_) (a' := ?_) #[true, true, true, true, true, false, false, false, false, false, false, false, false, false, false] rfl rfl (any_of HT_.out (by kernel_rfl)) (fun _ _ _ h => h) (Or.inl ⟨by rfl, ?_⟩) ?_ ?_; rotate_left
      ·intro w'
       go_simp
       with_reducible rfl
      rotate_left
      ·simp only [Act.put, zC, zD, zE, i64_w]
       rfl
      refine pure_ (i := 5) (N := some 63) (v := ?_) (a' := ?_) #[true, true, true, true, true, true, false, false, false, false, false, false, false, false, false] rfl rfl (any_of HT_.out (by kernel_rfl)) (fun _ _ _ h => h) (Or.inl ⟨by rfl, ?_⟩) ?_ ?_; rotate_left
      ·intro w'
       go_simp
       with_reducible rfl
      rotate_left
      ·simp only [Act.put, zC, zD, zE, i64_w]
       rfl
      refine pure_ (i := 6) (N := some 64) (v := ?_) (a' := ?_) #[true, true, true, true, true, true, true, false, false, false, false, false, false, false, false] rfl rfl (any_of HT_.out (by kernel_rfl)) (fun _ _ _ h => h) (Or.inl ⟨by rfl, ?_⟩) ?_ ?_; rotate_left
      ·intro w'
       go_simp
       with_reducible rfl
      rotate_left
      ·simp only [Act.put, zC, zD, zE, i64_w]
       rfl
      refine pure_ (i := 7) (N := some 65) (v := ?_) (a' := ?_) #[true, true, true, true, true, true, true, true, false, false, false, false, false, false, false] rfl rfl (any_of HT_.out (by kernel_rfl)) (fun _ _ _ h => h) (Or.inl ⟨by rfl, ?_⟩) ?_ ?_; rotate_left
      ·intro w'
       go_simp
       with_reducible rfl
      rotate_left
      ·simp only [Act.put, zC, zD, zE, i64_w]
       rfl
      refine pure_ (i := 8) (N := some 66) (v := ?_) (a' := ?_) #[true, true, true, true, true, true, true, true, true, false, false, false, false, false, false] rfl rfl (any_of HT_.out (by kernel_rfl)) (fun _ _ _ h => h) (Or.inl ⟨by rfl, ?_⟩) ?_ ?_; rotate_left
      ·intro w'
       go_simp
       with_reducible rfl
      rotate_left
      ·simp only [Act.put, zC, zD, zE, i64_w]
       rfl
      refine pure_ (i := 9) (N := some 67) (v := undef) (a' := ?_) #[true, true, true, true, true, true, true, true, true, true, false, false, false, false, false] rfl rfl (any_of HT_.out (by kernel_rfl)) (fun _ _ _ h => h) (Or.inr ⟨by rfl, rfl⟩) ?_ ?_; rotate_left
      ·simp only [Act.put, zC, zD, zE, i64_w]
       rfl
      refine pure_ (i := 10) (N := some 68) (v := undef) (a' := ?_) #[true, true, true, true, true, true, true, true, true, true, true, false, false, false, false] rfl rfl (any_of HT_.out (by kernel_rfl)) (fun _ _ _ h => h) (Or.inr ⟨by rfl, rfl⟩) ?_ ?_; rotate_left
      ·simp only [Act.put, zC, zD, zE, i64_w]
       rfl
      refine pure_ (i := 11) (N := some 69) (v := undef) (a' := ?_) #[true, true, true, true, true, true, true, true, true, true, true, true, false, false, false] rfl rfl (any_of HT_.out (by kernel_rfl)) (fun _ _ _ h => h) (Or.inr ⟨by rfl, rfl⟩) ?_ ?_; rotate_left
      ·simp only [Act.put, zC, zD, zE, i64_w]
       rfl
      refine pure_ (i := 12) (N := some 70) (v := undef) (a' := ?_) #[true, true, true, true, true, true, true, true, true, true, true, true, true, false, false] rfl rfl (any_of HT_.out (by kernel_rfl)) (fun _ _ _ h => h) (Or.inr ⟨by rfl, rfl⟩) ?_ ?_; rotate_left
      ·simp only [Act.put, zC, zD, zE, i64_w]
       rfl
      refine pure_ (i := 13) (N := some 71) (v := undef) (a' := ?_) #[true, true, true, true, true, true, true, true, true, true, true, true, true, true, false] rfl rfl (any_of HT_.out (by kernel_rfl)) (fun _ _ _ h => h) (Or.inr ⟨by rfl, rfl⟩) ?_ ?_; rotate_left
      ·simp only [Act.put, zC, zD, zE, i64_w]
       rfl
      refine pure_ (i := 14) (N := some 72) (v := ?_) (a' := ?_) #[true, true, true, true, true, true, true, true, true, true, true, true, true, true, true] rfl rfl (any_of HT_.out (by kernel_rfl)) (fun _ _ _ h => h) (Or.inl ⟨by rfl, ?_⟩) ?_ ?_; rotate_left
      ·intro w'
       go_simp
       with_reducible rfl
      rotate_left
      ·simp only [Act.put, zC, zD, zE, i64_w]
       rfl
      refine done_ (done_of HT_.out (by kernel_rfl)) ?_
      try go_wp2
      go_meet
      case rel => exact ⟨_, (true), (by first | rfl | (simp; done) | (simp [*]; done) | (simp [bne]; done)), H', ⟨by first | omega | exact Nat.le_refl _⟩, ⟨by (with_reducible repeat (first | refine zL ?_ _ | refine zN ?_ | refine zM ?_ _)); exact BK546.out⟩, ⟨by (with_reducible repeat (first | refine zL ?_ _ | refine zN ?_ | refine zM ?_ _)); exact BK547.out⟩, ⟨by repeat (first | (with_reducible first | exact HB.out | apply zH | apply zF | apply zG | refine zI ?_ GE546.out | refine zI ?_ GE547.out) | exact HB.out)⟩⟩
  case rest =>
   clear HC7
   try clear c1
   try clear c2
   try clear p2
   try clear c3
   try clear c3b0
   try clear p6
   try clear c7
   try clear c11
   try clear c18
   try clear c18b0
   try clear c18b1
   try clear c18b2
   try clear c20
   try clear c20b0
   try clear c20b1
   try clear c24
   try clear c25
   try clear c26
   try clear hcz12_0
   try clear hcz12_1
   try clear hcz12_2
   try clear hcz13_0
   try clear hcz13_1
   try clear hcz13_2
   try clear hcz15_0
   try clear hcz15_1
   try clear hcz15_2
   try clear hcz16_0
   try clear hcz16_1
   try clear hcz16_2
   try clear hfz12_0
   try clear hfz12_1
   try clear hfz12_2
   try clear hfz13_0
   try clear hfz13_1
   try clear hfz13_2
   try clear hfz15_0
   try clear hfz15_1
   try clear hfz15_2
   try clear hfz16_0
   try clear hfz16_1
   try clear hfz16_2
   obtain ⟨kq, x72_6, rfl, HA, HJ6, BK546, BK547, HB⟩ := hcut
   cases kq with
   | zero => exact absurd HA.out (by simp [laws_FnOrder.j0])
   | succ kj6 =>
    have H := HA.out; clear HA; simp only [laws_FnOrder.j0] at H
    by_cases c27 : x72_6 = true
    ·subst c27
     have H1 : (some false) = some r := by rw [if_pos rfl] at H; exact H
     clear H; have H := H1; clear H1
     as_aux_lemma =>
      obtain rfl := Option.some.inj H; go_wp2; go_ret; exact ⟨by first | rfl | (simp <;> rfl) | (simp [*] <;> rfl), by repeat (first | (with_reducible first | exact HB.out | apply zH | apply zF | apply zG | refine zI ?_ GE546.out | refine zI ?_ GE547.out) | exact HB.out)⟩
    ·replace c27 := Bool.eq_false_iff.mpr c27
     subst c27; have H1 : (if t549 = true then ((impl_ValueBytes.f t100 t541 t542).bind fun bt554 => ((impl_ValueBytes.f t543 t544 t545).bind fun bt556 => ((impl_CompareValues.f kj6 t543 t544 t545 t100 t541 t542).bind fun bt558 => (if bt554.2 = true then (if bt556.2 = true then ((laws_sameWay.f bt554.1 bt556.1).bind fun t560 => (if t560 = t548 then (if bt558.2 = true then (if bt558.1 = (wrap64 (-t548)) then (laws_FnOrder.j1 kj6 l1 t548 bt554.1 bt556.1 ((t548 == 0) != (t100 == t543 && (t541 == t544 && (t542.toList == t545.toList)))) t100 t541 t542) else (laws_FnOrder.j1 kj6 l1 t548 bt554.1 bt556.1 true t100 t541 t542)) else (laws_FnOrder.j1 kj6 l1 t548 bt554.1 bt556.1 true t100 t541 t542)) else (laws_FnOrder.j1 kj6 l1 t548 bt554.1 bt556.1 true t100 t541 t542))) else (laws_FnOrder.j1 kj6 l1 t548 bt554.1 bt556.1 true t100 t541 t542)) else (laws_FnOrder.j1 kj6 l1 t548 bt554.1 bt556.1 true t100 t541 t542))))) else (laws_FnOrder.j3 kj6 l1)) = some r := by rw [if_neg (show ¬ (false = true) by decide)] at H; exact H
     clear H; have H := H1; clear H1; have HC28 := zA H; clear H; go_upto_if 73 with (fail)
     go_cut [] (fun wc => ∃ (kq : Nat), Aside0 (laws_FnOrder.j3 kq l1 = some r) ∧ Aside0 (kq ≤ kj6) ∧ Aside0 (wc.heap[gb546]? = some (.cells #[.int .i64 t100, .int .i64 t541, .string t542] 27 (0, 0))) ∧ Aside0 (wc.heap[gb547]? = some (.cells #[.int .i64 t543, .int .i64 t544, .string t545] 27 (0, 0))) ∧ Aside0 (Below w.heap.size w wc))
     case first =>
      have H := HC28.out; clear HC28
      by_cases c29 : t549 = true
      ·subst c29
       have H1 : ((impl_ValueBytes.f t100 t541 t542).bind fun bt554 => ((impl_ValueBytes.f t543 t544 t545).bind fun bt556 => ((impl_CompareValues.f kj6 t543 t544 t545 t100 t541 t542).bind fun bt558 => (if bt554.2 = true then (if bt556.2 = true then ((laws_sameWay.f bt554.1 bt556.1).bind fun t560 => (if t560 = t548 then (if bt558.2 = true then (if bt558.1 = (wrap64 (-t548)) then (laws_FnOrder.j1 kj6 l1 t548 bt554.1 bt556.1 ((t548 == 0) != (t100 == t543 && (t541 == t544 && (t542.toList == t545.toList)))) t100 t541 t542) else (laws_FnOrder.j1 kj6 l1 t548 bt554.1 bt556.1 true t100 t541 t542)) else (laws_FnOrder.j1 kj6 l1 t548 bt554.1 bt556.1 true t100 t541 t542)) else (laws_FnOrder.j1 kj6 l1 t548 bt554.1 bt556.1 true t100 t541 t542))) else (laws_FnOrder.j1 kj6 l1 t548 bt554.1 bt556.1 true t100 t541 t542)) else (laws_FnOrder.j1 kj6 l1 t548 bt554.1 bt556.1 true t100 t541 t542))))) = some r := by rw [if_pos rfl] at H; exact H
       clear H; have H := H1; clear H1; replace H := zAF H; obtain ⟨⟨t554, t555⟩, A300, H⟩ := H; replace H : ((impl_ValueBytes.f t543 t544 t545).bind fun bt556 => ((impl_CompareValues.f kj6 t543 t544 t545 t100 t541 t542).bind fun bt558 => (if t555 = true then (if bt556.2 = true then ((laws_sameWay.f t554 bt556.1).bind fun t560 => (if t560 = t548 then (if bt558.2 = true then (if bt558.1 = (wrap64 (-t548)) then (laws_FnOrder.j1 kj6 l1 t548 t554 bt556.1 ((t548 == 0) != (t100 == t543 && (t541 == t544 && (t542.toList == t545.toList)))) t100 t541 t542) else (laws_FnOrder.j1 kj6 l1 t548 t554 bt556.1 true t100 t541 t542)) else (laws_FnOrder.j1 kj6 l1 t548 t554 bt556.1 true t100 t541 t542)) else (laws_FnOrder.j1 kj6 l1 t548 t554 bt556.1 true t100 t541 t542))) else (laws_FnOrder.j1 kj6 l1 t548 t554 bt556.1 true t100 t541 t542)) else (laws_FnOrder.j1 kj6 l1 t548 t554 bt556.1 true t100 t541 t542)))) = some r := H; have A30 := zA A300; clear A300; replace H := zAF H; obtain ⟨⟨t556, t557⟩, A310, H⟩ := H; replace H : ((impl_CompareValues.f kj6 t543 t544 t545 t100 t541 t542).bind fun bt558 => (if t555 = true then (if t557 = true then ((laws_sameWay.f t554 t556).bind fun t560 => (if t560 = t548 then (if bt558.2 = true then (if bt558.1 = (wrap64 (-t548)) then (laws_FnOrder.j1 kj6 l1 t548 t554 t556 ((t548 == 0) != (t100 == t543 && (t541 == t544 && (t542.toList == t545.toList)))) t100 t541 t542) else (laws_FnOrder.j1 kj6 l1 t548 t554 t556 true t100 t541 t542)) else (laws_FnOrder.j1 kj6 l1 t548 t554 t556 true t100 t541 t542)) else (laws_FnOrder.j1 kj6 l1 t548 t554 t556 true t100 t541 t542))) else (laws_FnOrder.j1 kj6 l1 t548 t554 t556 true t100 t541 t542)) else (laws_FnOrder.j1 kj6 l1 t548 t554 t556 true t100 t541 t542))) = some r := H; have A31 := zA A310; clear A310; replace H := zAF H; obtain ⟨⟨t558, t559⟩, A320, H⟩ := H; replace H : (if t555 = true then (if t557 = true then ((laws_sameWay.f t554 t556).bind fun t560 => (if t560 = t548 then (if t559 = true then (if t558 = (wrap64 (-t548)) then (laws_FnOrder.j1 kj6 l1 t548 t554 t556 ((t548 == 0) != (t100 == t543 && (t541 == t544 && (t542.toList == t545.toList)))) t100 t541 t542) else (laws_FnOrder.j1 kj6 l1 t548 t554 t556 true t100 t541 t542)) else (laws_FnOrder.j1 kj6 l1 t548 t554 t556 true t100 t541 t542)) else (laws_FnOrder.j1 kj6 l1 t548 t554 t556 true t100 t541 t542))) else (laws_FnOrder.j1 kj6 l1 t548 t554 t556 true t100 t541 t542)) else (laws_FnOrder.j1 kj6 l1 t548 t554 t556 true t100 t541 t542)) = some r := H; have A32 := zA A320; clear A320; have HC33 := zA H; clear H; have hnb34 := NB546_547.out; have hnc34 := NB547_546.out; have hcz35_0 : wc.cell? ⟨gb546, 0, none⟩ = some (.int .i64 t100) := (zP BK546.out 0).trans rfl; have hcz35_1 : wc.cell? ⟨gb546, 1, none⟩ = some (.int .i64 t541) := (zP BK546.out 1).trans rfl; have hcz35_2 : wc.cell? ⟨gb546, 2, none⟩ = some (.string t542) := (zP BK546.out 2).trans rfl; have hfz35_0 := zO BK546.out 0; have hfz35_1 := zO BK546.out 1; have hfz35_2 := zO BK546.out 2; go_upto_region 12 with (first | ((with_reducible refine yB (f := 11) rfl ?_); refine goesL_ (some 76) rfl rfl Tryd.func11 (by kernel_rfl) rfl #[.agg #[.int .i64 t100, .int .i64 t541, .string t542]] rfl (by (try simp only [zAA, zAB, zAC]); first | done | rfl) ?_; (with_reducible refine (impl_ValueBytes.calls t100 t541 t542 t554 t555 _ A30.out).mono ?_); rintro e w36 ⟨rfl, hb⟩; refine ⟨_, rfl, ?_⟩; have n0_ := zA (yE (g := gb546) (o := .cells #[.int .i64 t100, .int .i64 t541, .string t542] 27 (0, 0)) (by (with_reducible repeat (first | refine zL ?_ _ | refine zN ?_ | refine zM ?_ _)); exact BK546.out) hb); have n1_ := zA (yE (g := gb547) (o := .cells #[.int .i64 t543, .int .i64 t544, .string t545] 27 (0, 0)) (by (with_reducible repeat (first | refine zL ?_ _ | refine zN ?_ | refine zM ?_ _)); exact BK547.out) hb); have n2_ := zA (zAD (by repeat (first | (with_reducible first | exact HB.out | apply zH | apply zF | apply zG | refine zI ?_ GE546.out | refine zI ?_ GE547.out) | exact HB.out)) hb); clear BK546; clear BK547; clear HB; have BK546 := n0_; have BK547 := n1_; have HB := n2_; clear n0_ n1_ n2_; (try clear hb); have hcz37_0 : w36.cell? ⟨gb547, 0, none⟩ = some (.int .i64 t543) := (zP BK547.out 0).trans rfl; have hcz37_1 : w36.cell? ⟨gb547, 1, none⟩ = some (.int .i64 t544) := (zP BK547.out 1).trans rfl; have hcz37_2 : w36.cell? ⟨gb547, 2, none⟩ = some (.string t545) := (zP BK547.out 2).trans rfl; have hfz37_0 := zO BK547.out 0; have hfz37_1 := zO BK547.out 1; have hfz37_2 := zO BK547.out 2) | ((with_reducible refine yB (f := 11) rfl ?_); refine goesL_ (some 81) rfl rfl Tryd.func11 (by kernel_rfl) rfl #[.agg #[.int .i64 t543, .int .i64 t544, .string t545]] rfl (by (try simp only [zAA, zAB, zAC]); first | done | rfl) ?_; (with_reducible refine (impl_ValueBytes.calls t543 t544 t545 t556 t557 _ A31.out).mono ?_); rintro e w38 ⟨rfl, hb⟩; refine ⟨_, rfl, ?_⟩; have n0_ := zA (yE (g := gb546) (o := .cells #[.int .i64 t100, .int .i64 t541, .string t542] 27 (0, 0)) (by (with_reducible repeat (first | refine zL ?_ _ | refine zN ?_ | refine zM ?_ _)); exact BK546.out) hb); have n1_ := zA (yE (g := gb547) (o := .cells #[.int .i64 t543, .int .i64 t544, .string t545] 27 (0, 0)) (by (with_reducible repeat (first | refine zL ?_ _ | refine zN ?_ | refine zM ?_ _)); exact BK547.out) hb); have n2_ := zA (zAD (by repeat (first | (with_reducible first | exact HB.out | apply zH | apply zF | apply zG | refine zI ?_ GE546.out | refine zI ?_ GE547.out) | exact HB.out)) hb); clear BK546; clear BK547; clear HB; have BK546 := n0_; have BK547 := n1_; have HB := n2_; clear n0_ n1_ n2_; (try clear hb); have hcz39_0 : w38.cell? ⟨gb547, 0, none⟩ = some (.int .i64 t543) := (zP BK547.out 0).trans rfl; have hcz39_1 : w38.cell? ⟨gb547, 1, none⟩ = some (.int .i64 t544) := (zP BK547.out 1).trans rfl; have hcz39_2 : w38.cell? ⟨gb547, 2, none⟩ = some (.string t545) := (zP BK547.out 2).trans rfl; have hfz39_0 := zO BK547.out 0; have hfz39_1 := zO BK547.out 1; have hfz39_2 := zO BK547.out 2; have hcz40_0 : w38.cell? ⟨gb546, 0, none⟩ = some (.int .i64 t100) := (zP BK546.out 0).trans rfl; have hcz40_1 : w38.cell? ⟨gb546, 1, none⟩ = some (.int .i64 t541) := (zP BK546.out 1).trans rfl; have hcz40_2 : w38.cell? ⟨gb546, 2, none⟩ = some (.string t542) := (zP BK546.out 2).trans rfl; have hfz40_0 := zO BK546.out 0; have hfz40_1 := zO BK546.out 1; have hfz40_2 := zO BK546.out 2) | ((with_reducible refine yB (f := 25) rfl ?_); refine goesL_ (some 87) rfl rfl Tryd.func25 (by kernel_rfl) rfl #[.agg #[.int .i64 t543, .int .i64 t544, .string t545], .agg #[.int .i64 t100, .int .i64 t541, .string t542]] rfl (by (try simp only [zAA, zAB, zAC]); first | done | rfl) ?_; (with_reducible refine (impl_CompareValues.calls kj6 t543 t544 t545 t100 t541 t542 t558 t559 _ A32.out).mono ?_); rintro e w41 ⟨rfl, hb⟩; refine ⟨_, rfl, ?_⟩; have n0_ := zA (yE (g := gb546) (o := .cells #[.int .i64 t100, .int .i64 t541, .string t542] 27 (0, 0)) (by (with_reducible repeat (first | refine zL ?_ _ | refine zN ?_ | refine zM ?_ _)); exact BK546.out) hb); have n1_ := zA (yE (g := gb547) (o := .cells #[.int .i64 t543, .int .i64 t544, .string t545] 27 (0, 0)) (by (with_reducible repeat (first | refine zL ?_ _ | refine zN ?_ | refine zM ?_ _)); exact BK547.out) hb); have n2_ := zA (zAD (by repeat (first | (with_reducible first | exact HB.out | apply zH | apply zF | apply zG | refine zI ?_ GE546.out | refine zI ?_ GE547.out) | exact HB.out)) hb); clear BK546; clear BK547; clear HB; have BK546 := n0_; have BK547 := n1_; have HB := n2_; clear n0_ n1_ n2_; (try clear hb)))
       (try simp only [Act.put, zC, zD, zE]); go_cut [120] (fun v120 wc => ∃ (kq : Nat) (x120_32 : Bool), v120 = .bool x120_32 ∧ Aside0 (laws_FnOrder.j1 kq l1 t548 t554 t556 x120_32 t100 t541 t542 = some r) ∧ Aside0 (kq ≤ kj6) ∧ Aside0 (wc.heap[gb546]? = some (.cells #[.int .i64 t100, .int .i64 t541, .string t542] 27 (0, 0))) ∧ Aside0 (wc.heap[gb547]? = some (.cells #[.int .i64 t543, .int .i64 t544, .string t545] 27 (0, 0))) ∧ Aside0 (Below w.heap.size w wc))
       case first =>
        have H := HC33.out; clear HC33
        by_cases c42 : t555 = true
        ·subst c42
         have H1 : (if t557 = true then ((laws_sameWay.f t554 t556).bind fun t560 => (if t560 = t548 then (if t559 = true then (if t558 = (wrap64 (-t548)) then (laws_FnOrder.j1 kj6 l1 t548 t554 t556 ((t548 == 0) != (t100 == t543 && (t541 == t544 && (t542.toList == t545.toList)))) t100 t541 t542) else (laws_FnOrder.j1 kj6 l1 t548 t554 t556 true t100 t541 t542)) else (laws_FnOrder.j1 kj6 l1 t548 t554 t556 true t100 t541 t542)) else (laws_FnOrder.j1 kj6 l1 t548 t554 t556 true t100 t541 t542))) else (laws_FnOrder.j1 kj6 l1 t548 t554 t556 true t100 t541 t542)) = some r := by rw [if_pos rfl] at H; exact H
         clear H; have H := H1; clear H1
         by_cases c43 : t557 = true
         ·subst c43
          have H1 : ((laws_sameWay.f t554 t556).bind fun t560 => (if t560 = t548 then (if t559 = true then (if t558 = (wrap64 (-t548)) then (laws_FnOrder.j1 kj6 l1 t548 t554 t556 ((t548 == 0) != (t100 == t543 && (t541 == t544 && (t542.toList == t545.toList)))) t100 t541 t542) else (laws_FnOrder.j1 kj6 l1 t548 t554 t556 true t100 t541 t542)) else (laws_FnOrder.j1 kj6 l1 t548 t554 t556 true t100 t541 t542)) else (laws_FnOrder.j1 kj6 l1 t548 t554 t556 true t100 t541 t542))) = some r := by rw [if_pos rfl] at H; exact H
          clear H; have H := H1; clear H1; replace H := zAF H; obtain ⟨t560, A440, H⟩ := H; replace H : (if t560 = t548 then (if t559 = true then (if t558 = (wrap64 (-t548)) then (laws_FnOrder.j1 kj6 l1 t548 t554 t556 ((t548 == 0) != (t100 == t543 && (t541 == t544 && (t542.toList == t545.toList)))) t100 t541 t542) else (laws_FnOrder.j1 kj6 l1 t548 t554 t556 true t100 t541 t542)) else (laws_FnOrder.j1 kj6 l1 t548 t554 t556 true t100 t541 t542)) else (laws_FnOrder.j1 kj6 l1 t548 t554 t556 true t100 t541 t542)) = some r := H; have A44 := zA A440; clear A440
          by_cases c45 : t560 = t548
          ·rw [if_pos c45] at H
           have c45b0 : (t560 == t548) = true := beq_iff_eq.mpr c45; have c45b1 : (t560 != t548) = false := bne_eq_false_iff_eq.mpr c45; clear c45; (first | rw [c45b0] | (simp only [i64_w, i32_w]; rw [c45b0]) | skip)
           by_cases c46 : t559 = true
           ·subst c46
            have H1 : (if t558 = (wrap64 (-t548)) then (laws_FnOrder.j1 kj6 l1 t548 t554 t556 ((t548 == 0) != (t100 == t543 && (t541 == t544 && (t542.toList == t545.toList)))) t100 t541 t542) else (laws_FnOrder.j1 kj6 l1 t548 t554 t556 true t100 t541 t542)) = some r := by rw [if_pos rfl] at H; exact H
            clear H; have H := H1; clear H1
            by_cases c47 : t558 = (wrap64 (-t548))
            ·rw [if_pos c47] at H
             have c47b0 : (t558 == (wrap64 (-t548))) = true := beq_iff_eq.mpr c47; have c47b1 : (t558 != (wrap64 (-t548))) = false := bne_eq_false_iff_eq.mpr c47; clear c47
             as_aux_lemma =>
              have H' := zA H; clear H; go_wp2_with (first | (go_at_call 29; (with_reducible refine (laws_sameWay.calls t554 t556 t560 _ A44.out).mono ?_); rintro e w' ⟨rfl, ⟨nd, rfl⟩⟩; have hnb48 := NB546_547.out; have hnc48 := NB547_546.out; have hcz49_0 : w41.cell? ⟨gb546, 0, none⟩ = some (.int .i64 t100) := (zP BK546.out 0).trans rfl; have hcz49_1 : w41.cell? ⟨gb546, 1, none⟩ = some (.int .i64 t541) := (zP BK546.out 1).trans rfl; have hcz49_2 : w41.cell? ⟨gb546, 2, none⟩ = some (.string t542) := (zP BK546.out 2).trans rfl; have hfz49_0 := zO BK546.out 0; have hfz49_1 := zO BK546.out 1; have hfz49_2 := zO BK546.out 2; have hcz50_0 : w41.cell? ⟨gb547, 0, none⟩ = some (.int .i64 t543) := (zP BK547.out 0).trans rfl; have hcz50_1 : w41.cell? ⟨gb547, 1, none⟩ = some (.int .i64 t544) := (zP BK547.out 1).trans rfl; have hcz50_2 : w41.cell? ⟨gb547, 2, none⟩ = some (.string t545) := (zP BK547.out 2).trans rfl; have hfz50_0 := zO BK547.out 0; have hfz50_1 := zO BK547.out 1; have hfz50_2 := zO BK547.out 2)); go_meet
              case rel => exact ⟨_, (((t548 == 0) != (t100 == t543 && (t541 == t544 && (t542.toList == t545.toList))))), (by first | rfl | (simp; done) | (simp [*]; done) | (simp [bne]; done)), H', ⟨by have := HJ6.out; first | omega | exact Nat.le_refl _⟩, ⟨by (with_reducible repeat (first | refine zL ?_ _ | refine zN ?_ | refine zM ?_ _)); exact BK546.out⟩, ⟨by (with_reducible repeat (first | refine zL ?_ _ | refine zN ?_ | refine zM ?_ _)); exact BK547.out⟩, ⟨by repeat (first | (with_reducible first | exact HB.out | apply zH | apply zF | apply zG | refine zI ?_ GE546.out | refine zI ?_ GE547.out) | exact HB.out)⟩⟩
            ·rw [if_neg c47] at H
             have c47b0 : (t558 == (wrap64 (-t548))) = false := beq_eq_false_iff_ne.mpr c47; have c47b1 : (t558 != (wrap64 (-t548))) = true := bne_iff_ne.mpr c47
             as_aux_lemma =>
              have H' := zA H; clear H; go_wp2_with (first | (go_at_call 29; (with_reducible refine (laws_sameWay.calls t554 t556 t560 _ A44.out).mono ?_); rintro e w' ⟨rfl, ⟨nd, rfl⟩⟩)); go_meet
              case rel => exact ⟨_, (true), (by first | rfl | (simp; done) | (simp [*]; done) | (simp [bne]; done)), H', ⟨by have := HJ6.out; first | omega | exact Nat.le_refl _⟩, ⟨by (with_reducible repeat (first | refine zL ?_ _ | refine zN ?_ | refine zM ?_ _)); exact BK546.out⟩, ⟨by (with_reducible repeat (first | refine zL ?_ _ | refine zN ?_ | refine zM ?_ _)); exact BK547.out⟩, ⟨by repeat (first | (with_reducible first | exact HB.out | apply zH | apply zF | apply zG | refine zI ?_ GE546.out | refine zI ?_ GE547.out) | exact HB.out)⟩⟩
           ·replace c46 := Bool.eq_false_iff.mpr c46
            subst c46; have H1 : (laws_FnOrder.j1 kj6 l1 t548 t554 t556 true t100 t541 t542) = some r := by rw [if_neg (show ¬ (false = true) by decide)] at H; exact H
            clear H; have H := H1; clear H1
            as_aux_lemma =>
             have H' := zA H; clear H; go_wp2_with (first | (go_at_call 29; (with_reducible refine (laws_sameWay.calls t554 t556 t560 _ A44.out).mono ?_); rintro e w' ⟨rfl, ⟨nd, rfl⟩⟩)); go_meet
             case rel => exact ⟨_, (true), (by first | rfl | (simp; done) | (simp [*]; done) | (simp [bne]; done)), H', ⟨by have := HJ6.out; first | omega | exact Nat.le_refl _⟩, ⟨by (with_reducible repeat (first | refine zL ?_ _ | refine zN ?_ | refine zM ?_ _)); exact BK546.out⟩, ⟨by (with_reducible repeat (first | refine zL ?_ _ | refine zN ?_ | refine zM ?_ _)); exact BK547.out⟩, ⟨by repeat (first | (with_reducible first | exact HB.out | apply zH | apply zF | apply zG | refine zI ?_ GE546.out | refine zI ?_ GE547.out) | exact HB.out)⟩⟩
          ·rw [if_neg c45] at H
           have c45b0 : (t560 == t548) = false := beq_eq_false_iff_ne.mpr c45; have c45b1 : (t560 != t548) = true := bne_iff_ne.mpr c45; (first | rw [c45b0] | (simp only [i64_w, i32_w]; rw [c45b0]) | skip)
           as_aux_lemma =>
            have H' := zA H; clear H; go_wp2_with (first | (go_at_call 29; (with_reducible refine (laws_sameWay.calls t554 t556 t560 _ A44.out).mono ?_); rintro e w' ⟨rfl, ⟨nd, rfl⟩⟩)); go_meet
            case rel => exact ⟨_, (true), (by first | rfl | (simp; done) | (simp [*]; done) | (simp [bne]; done)), H', ⟨by have := HJ6.out; first | omega | exact Nat.le_refl _⟩, ⟨by (with_reducible repeat (first | refine zL ?_ _ | refine zN ?_ | refine zM ?_ _)); exact BK546.out⟩, ⟨by (with_reducible repeat (first | refine zL ?_ _ | refine zN ?_ | refine zM ?_ _)); exact BK547.out⟩, ⟨by repeat (first | (with_reducible first | exact HB.out | apply zH | apply zF | apply zG | refine zI ?_ GE546.out | refine zI ?_ GE547.out) | exact HB.out)⟩⟩
         ·replace c43 := Bool.eq_false_iff.mpr c43
          subst c43; have H1 : (laws_FnOrder.j1 kj6 l1 t548 t554 t556 true t100 t541 t542) = some r := by rw [if_neg (show ¬ (false = true) by decide)] at H; exact H
          clear H; have H := H1; clear H1
          as_aux_lemma =>
           have H' := zA H; clear H; go_wp2; go_meet
           case rel => exact ⟨_, (true), (by first | rfl | (simp; done) | (simp [*]; done) | (simp [bne]; done)), H', ⟨by have := HJ6.out; first | omega | exact Nat.le_refl _⟩, ⟨by (with_reducible repeat (first | refine zL ?_ _ | refine zN ?_ | refine zM ?_ _)); exact BK546.out⟩, ⟨by (with_reducible repeat (first | refine zL ?_ _ | refine zN ?_ | refine zM ?_ _)); exact BK547.out⟩, ⟨by repeat (first | (with_reducible first | exact HB.out | apply zH | apply zF | apply zG | refine zI ?_ GE546.out | refine zI ?_ GE547.out) | exact HB.out)⟩⟩
        ·replace c42 := Bool.eq_false_iff.mpr c42
         subst c42; have H1 : (laws_FnOrder.j1 kj6 l1 t548 t554 t556 true t100 t541 t542) = some r := by rw [if_neg (show ¬ (false = true) by decide)] at H; exact H
         clear H; have H := H1; clear H1
         as_aux_lemma =>
          have H' := zA H; clear H; go_wp2; go_meet
          case rel => exact ⟨_, (true), (by first | rfl | (simp; done) | (simp [*]; done) | (simp [bne]; done)), H', ⟨by have := HJ6.out; first | omega | exact Nat.le_refl _⟩, ⟨by (with_reducible repeat (first | refine zL ?_ _ | refine zN ?_ | refine zM ?_ _)); exact BK546.out⟩, ⟨by (with_reducible repeat (first | refine zL ?_ _ | refine zN ?_ | refine zM ?_ _)); exact BK547.out⟩, ⟨by repeat (first | (with_reducible first | exact HB.out | apply zH | apply zF | apply zG | refine zI ?_ GE546.out | refine zI ?_ GE547.out) | exact HB.out)⟩⟩
       case rest =>
        clear HC33
        try clear c1
        try clear c2
        try clear p2
        try clear c3
        try clear c3b0
        try clear c4
        try clear p6
        try clear c7
        try clear c11
        try clear c18
        try clear c18b0
        try clear c18b1
        try clear c18b2
        try clear c20
        try clear c20b0
        try clear c20b1
        try clear c24
        try clear c25
        try clear c26
        try clear c27
        try clear c28
        try clear c29
        try clear c34
        try clear c42
        try clear c43
        try clear c45
        try clear c45b0
        try clear c45b1
        try clear c46
        try clear c47
        try clear c47b0
        try clear c47b1
        try clear c48
        try clear hcz12_0
        try clear hcz12_1
        try clear hcz12_2
        try clear hcz13_0
        try clear hcz13_1
        try clear hcz13_2
        try clear hcz15_0
        try clear hcz15_1
        try clear hcz15_2
        try clear hcz16_0
        try clear hcz16_1
        try clear hcz16_2
        try clear hcz35_0
        try clear hcz35_1
        try clear hcz35_2
        try clear hcz37_0
        try clear hcz37_1
        try clear hcz37_2
        try clear hcz39_0
        try clear hcz39_1
        try clear hcz39_2
        try clear hcz40_0
        try clear hcz40_1
        try clear hcz40_2
        try clear hcz49_0
        try clear hcz49_1
        try clear hcz49_2
        try clear hcz50_0
        try clear hcz50_1
        try clear hcz50_2
        try clear hfz12_0
        try clear hfz12_1
        try clear hfz12_2
        try clear hfz13_0
        try clear hfz13_1
        try clear hfz13_2
        try clear hfz15_0
        try clear hfz15_1
        try clear hfz15_2
        try clear hfz16_0
        try clear hfz16_1
        try clear hfz16_2
        try clear hfz35_0
        try clear hfz35_1
        try clear hfz35_2
        try clear hfz37_0
        try clear hfz37_1
        try clear hfz37_2
        try clear hfz39_0
        try clear hfz39_1
        try clear hfz39_2
        try clear hfz40_0
        try clear hfz40_1
        try clear hfz40_2
        try clear hfz49_0
        try clear hfz49_1
        try clear hfz49_2
        try clear hfz50_0
        try clear hfz50_1
        try clear hfz50_2
        try clear p2
        try clear p6
        obtain ⟨kq, x120_32, rfl, HA, HJ32, BK546, BK547, HB⟩ := hcut
        cases kq with
        | zero => exact absurd HA.out (by simp [laws_FnOrder.j1])
        | succ kj32 =>
         have H := HA.out; clear HA; simp only [laws_FnOrder.j1] at H
         by_cases c51 : x120_32 = true
         ·subst c51
          have H1 : (some false) = some r := by rw [if_pos rfl] at H; exact H
          clear H; have H := H1; clear H1
          as_aux_lemma =>
           obtain rfl := Option.some.inj H; go_wp2; go_ret; exact ⟨by first | rfl | (simp <;> rfl) | (simp [*] <;> rfl), by repeat (first | (with_reducible first | exact HB.out | apply zH | apply zF | apply zG | refine zI ?_ GE546.out | refine zI ?_ GE547.out) | exact HB.out)⟩
         ·replace c51 := Bool.eq_false_iff.mpr c51
          subst c51; have H1 : (if t548 = 0 then (laws_FnOrder.j2 kj32 l1 t554 t556 false t100 t541 t542) else (if (t554.size : Int) ≤ (t556.size : Int) then (if 0 ≤ (t554.size : Int) then (laws_FnOrder.j2 kj32 l1 t554 t556 ((t556.extract 0 ((t554.size : Int) : Int).toNat).toList == t554.toList) t100 t541 t542) else (none)) else (laws_FnOrder.j2 kj32 l1 t554 t556 false t100 t541 t542))) = some r := by rw [if_neg (show ¬ (false = true) by decide)] at H; exact H
          clear H; have H := H1; clear H1; have HC52 := zA H; clear H; go_upto_region 14 with (fail)
          go_cut [137] (fun v137 wc => ∃ (kq : Nat) (x137_51 : Bool), v137 = .bool x137_51 ∧ Aside0 (laws_FnOrder.j2 kq l1 t554 t556 x137_51 t100 t541 t542 = some r) ∧ Aside0 (kq ≤ kj32) ∧ Aside0 (wc.heap[gb546]? = some (.cells #[.int .i64 t100, .int .i64 t541, .string t542] 27 (0, 0))) ∧ Aside0 (wc.heap[gb547]? = some (.cells #[.int .i64 t543, .int .i64 t544, .string t545] 27 (0, 0))) ∧ Aside0 (Below w.heap.size w wc))
          case first =>
           have H := HC52.out; clear HC52
           by_cases c53 : t548 = 0
           ·rw [if_pos c53] at H
            have c53b0 : (t548 == 0) = true := beq_iff_eq.mpr c53; have c53b1 : (t548 != 0) = false := bne_eq_false_iff_eq.mpr c53; clear c53; (first | rw [c53b0] | (simp only [i64_w, i32_w]; rw [c53b0]) | skip)
            as_aux_lemma =>
             have H' := zA H; clear H; go_wp2; go_meet
             case rel => exact ⟨_, (false), (by first | rfl | (simp; done) | (simp [*]; done) | (simp [bne]; done)), H', ⟨by have := HJ6.out; have := HJ32.out; first | omega | exact Nat.le_refl _⟩, ⟨by (with_reducible repeat (first | refine zL ?_ _ | refine zN ?_ | refine zM ?_ _)); exact BK546.out⟩, ⟨by (with_reducible repeat (first | refine zL ?_ _ | refine zN ?_ | refine zM ?_ _)); exact BK547.out⟩, ⟨by repeat (first | (with_reducible first | exact HB.out | apply zH | apply zF | apply zG | refine zI ?_ GE546.out | refine zI ?_ GE547.out) | exact HB.out)⟩⟩
           ·rw [if_neg c53] at H
            have c53b0 : (t548 == 0) = false := beq_eq_false_iff_ne.mpr c53; have c53b1 : (t548 != 0) = true := bne_iff_ne.mpr c53; (first | rw [c53b0] | (simp only [i64_w, i32_w]; rw [c53b0]) | skip)
            by_cases c54 : (t554.size : Int) ≤ (t556.size : Int)
            ·rw [if_pos c54] at H
             have c54b0 : decide ((t554.size : Int) ≤ (t556.size : Int)) = true := zX c54; have c54b1 : decide (t554.size ≤ t556.size) = true := zX (Int.ofNat_le.mp c54); clear c54
             by_cases c55 : 0 ≤ (t554.size : Int)
             ·rw [if_pos c55] at H
              have c55b0 := eq_true c55; have c55b1 : decide (0 ≤ (t554.size : Int)) = true := zX c55; clear c55; have c56b0 := eq_true (zW (by first | (with_reducible assumption) | assumption) : (t554.size : Int) ≤ (t556.size : Int))
              as_aux_lemma =>
               have H' := zA H; clear H; go_wp2; go_meet
               case rel => exact ⟨_, (((t556.extract 0 ((t554.size : Int) : Int).toNat).toList == t554.toList)), (by first | rfl | (simp; done) | (simp [*]; done) | (simp [bne]; done)), H', ⟨by have := HJ6.out; have := HJ32.out; first | omega | exact Nat.le_refl _⟩, ⟨by (with_reducible repeat (first | refine zL ?_ _ | refine zN ?_ | refine zM ?_ _)); exact BK546.out⟩, ⟨by (with_reducible repeat (first | refine zL ?_ _ | refine zN ?_ | refine zM ?_ _)); exact BK547.out⟩, ⟨by repeat (first | (with_reducible first | exact HB.out | apply zH | apply zF | apply zG | refine zI ?_ GE546.out | refine zI ?_ GE547.out) | exact HB.out)⟩⟩
             ·rw [if_neg c55] at H
              exact absurd H (by simp)
            ·rw [if_neg c54] at H
             have c54b0 : decide ((t554.size : Int) ≤ (t556.size : Int)) = false := decide_eq_false c54; have c54b1 : decide (t554.size ≤ t556.size) = false := decide_eq_false (fun h => c54 (Int.ofNat_le.mpr h)); clear c54
             as_aux_lemma =>
              have H' := zA H; clear H; go_wp2; go_meet
              case rel => exact ⟨_, (false), (by first | rfl | (simp; done) | (simp [*]; done) | (simp [bne]; done)), H', ⟨by have := HJ6.out; have := HJ32.out; first | omega | exact Nat.le_refl _⟩, ⟨by (with_reducible repeat (first | refine zL ?_ _ | refine zN ?_ | refine zM ?_ _)); exact BK546.out⟩, ⟨by (with_reducible repeat (first | refine zL ?_ _ | refine zN ?_ | refine zM ?_ _)); exact BK547.out⟩, ⟨by repeat (first | (with_reducible first | exact HB.out | apply zH | apply zF | apply zG | refine zI ?_ GE546.out | refine zI ?_ GE547.out) | exact HB.out)⟩⟩
          case rest =>
           clear HC52
           try clear c1
           try clear c2
           try clear p2
           try clear c3
           try clear c3b0
           try clear c4
           try clear c5
           try clear p6
           try clear c7
           try clear c11
           try clear c18
           try clear c18b0
           try clear c18b1
           try clear c18b2
           try clear c20
           try clear c20b0
           try clear c20b1
           try clear c24
           try clear c25
           try clear c26
           try clear c27
           try clear c28
           try clear c29
           try clear c34
           try clear c42
           try clear c43
           try clear c45
           try clear c45b0
           try clear c45b1
           try clear c46
           try clear c47
           try clear c47b0
           try clear c47b1
           try clear c48
           try clear c51
           try clear c53
           try clear c53b0
           try clear c53b1
           try clear c54
           try clear c54b0
           try clear c54b1
           try clear c55
           try clear c55b0
           try clear c55b1
           try clear c56
           try clear c56b0
           try clear hcz12_0
           try clear hcz12_1
           try clear hcz12_2
           try clear hcz13_0
           try clear hcz13_1
           try clear hcz13_2
           try clear hcz15_0
           try clear hcz15_1
           try clear hcz15_2
           try clear hcz16_0
           try clear hcz16_1
           try clear hcz16_2
           try clear hcz35_0
           try clear hcz35_1
           try clear hcz35_2
           try clear hcz37_0
           try clear hcz37_1
           try clear hcz37_2
           try clear hcz39_0
           try clear hcz39_1
           try clear hcz39_2
           try clear hcz40_0
           try clear hcz40_1
           try clear hcz40_2
           try clear hcz49_0
           try clear hcz49_1
           try clear hcz49_2
           try clear hcz50_0
           try clear hcz50_1
           try clear hcz50_2
           try clear hfz12_0
           try clear hfz12_1
           try clear hfz12_2
           try clear hfz13_0
           try clear hfz13_1
           try clear hfz13_2
           try clear hfz15_0
           try clear hfz15_1
           try clear hfz15_2
           try clear hfz16_0
           try clear hfz16_1
           try clear hfz16_2
           try clear hfz35_0
           try clear hfz35_1
           try clear hfz35_2
           try clear hfz37_0
           try clear hfz37_1
           try clear hfz37_2
           try clear hfz39_0
           try clear hfz39_1
           try clear hfz39_2
           try clear hfz40_0
           try clear hfz40_1
           try clear hfz40_2
           try clear hfz49_0
           try clear hfz49_1
           try clear hfz49_2
           try clear hfz50_0
           try clear hfz50_1
           try clear hfz50_2
           try clear p2
           try clear p6
           obtain ⟨kq, x137_51, rfl, HA, HJ51, BK546, BK547, HB⟩ := hcut
           cases kq with
           | zero => exact absurd HA.out (by simp [laws_FnOrder.j2])
           | succ kj51 =>
            have H := HA.out; clear HA; simp only [laws_FnOrder.j2] at H
            by_cases c57 : x137_51 = true
            ·subst c57
             have H1 : (some false) = some r := by rw [if_pos rfl] at H; exact H
             clear H; have H := H1; clear H1
             as_aux_lemma =>
              obtain rfl := Option.some.inj H; go_wp2; go_ret; exact ⟨by first | rfl | (simp <;> rfl) | (simp [*] <;> rfl), by repeat (first | (with_reducible first | exact HB.out | apply zH | apply zF | apply zG | refine zI ?_ GE546.out | refine zI ?_ GE547.out) | exact HB.out)⟩
            ·replace c57 := Bool.eq_false_iff.mpr c57
             subst c57; have H1 : (if t554.size + t556.size ≤ 9223372036854775807 then ((impl_ReadValue.f kj51 (t554 ++ t556) 0).bind fun bt561 => (if bt561.2.2.2.2 = true then (if (!(bt561.1 == t100) || (!(bt561.2.1 == t541) || (!(bt561.2.2.1.toList == t542.toList)))) = true then (some false) else (if bt561.2.2.2.1 = (t554.size : Int) then (laws_FnOrder.j3 kj51 l1) else (some false))) else (some false))) else (none)) = some r := by rw [if_neg (show ¬ (false = true) by decide)] at H; exact H
             clear H; have H := H1; clear H1
             by_cases c58 : t554.size + t556.size ≤ 9223372036854775807
             ·rw [if_pos c58] at H
              have c58b0 := eq_true c58; have c58b1 : decide (t554.size + t556.size ≤ 9223372036854775807) = true := zX c58
              try have c58b2 : (9223372036854775807 < t554.size + t556.size) = False := eq_false (Nat.not_lt.2 c58)
              replace H := zAF H; obtain ⟨⟨t561, t562, t563, t564, t565⟩, A590, H⟩ := H; replace H : (if t565 = true then (if (!(t561 == t100) || (!(t562 == t541) || (!(t563.toList == t542.toList)))) = true then (some false) else (if t564 = (t554.size : Int) then (laws_FnOrder.j3 kj51 l1) else (some false))) else (some false)) = some r := H; have A59 := zA A590; clear A590
              by_cases c60 : t565 = true
              ·subst c60
               have H1 : (if (!(t561 == t100) || (!(t562 == t541) || (!(t563.toList == t542.toList)))) = true then (some false) else (if t564 = (t554.size : Int) then (laws_FnOrder.j3 kj51 l1) else (some false))) = some r := by rw [if_pos rfl] at H; exact H
               clear H; have H := H1; clear H1
               by_cases c61 : (!(t561 == t100) || (!(t562 == t541) || (!(t563.toList == t542.toList)))) = true
               ·rw [if_pos c61] at H
                have c61b0 : (!(t561 == t100) || (!(t562 == t541) || (!(t563.toList == t542.toList)))) = true := c61; clear c61
                as_aux_lemma =>
                 obtain rfl := Option.some.inj H; go_wp2_with (first | ((with_reducible refine yB (f := 30) rfl ?_); refine goesL_ (some 142) rfl rfl Tryd.func30 (by kernel_rfl) rfl #[.string (t554 ++ t556), .int .i64 0] rfl (by (try simp only [zAA, zAB, zAC]); first | done | rfl) ?_; (with_reducible refine (impl_ReadValue.calls kj51 (t554 ++ t556) 0 t561 t562 t563 t564 true _ A59.out).mono ?_); rintro e w62 ⟨rfl, hb⟩; refine ⟨_, rfl, ?_⟩; have n0_ := zA (yE (g := gb546) (o := .cells #[.int .i64 t100, .int .i64 t541, .string t542] 27 (0, 0)) (by (with_reducible repeat (first | refine zL ?_ _ | refine zN ?_ | refine zM ?_ _)); exact BK546.out) hb); have n1_ := zA (yE (g := gb547) (o := .cells #[.int .i64 t543, .int .i64 t544, .string t545] 27 (0, 0)) (by (with_reducible repeat (first | refine zL ?_ _ | refine zN ?_ | refine zM ?_ _)); exact BK547.out) hb); have n2_ := zA (zAD (by repeat (first | (with_reducible first | exact HB.out | apply zH | apply zF | apply zG | refine zI ?_ GE546.out | refine zI ?_ GE547.out) | exact HB.out)) hb); clear BK546; clear BK547; clear HB; have BK546 := n0_; have BK547 := n1_; have HB := n2_; clear n0_ n1_ n2_; (try clear hb)) | ((with_reducible refine gate_dst (N := 17) rfl ?_); (try (refine gate_guard (by rfl) ?_; dsimp only)); refine box_event ?hg (N := 17) ?hd (cs := #[.int .i64 0, .int .i64 0, .string (⟨#[]⟩ : ByteArray)]) (t := 27) ?hr ?_; (case hd => rfl); (case hg => rfl); (case hr => first | (go_simp; done) | (go_simp; rfl)); intro gb566 hg w63 hbox hb; have n0_ := zA (yE (g := gb546) (o := .cells #[.int .i64 t100, .int .i64 t541, .string t542] 27 (0, 0)) (by (with_reducible repeat (first | refine zL ?_ _ | refine zN ?_ | refine zM ?_ _)); exact BK546.out) hb); have n1_ := zA (yE (g := gb547) (o := .cells #[.int .i64 t543, .int .i64 t544, .string t545] 27 (0, 0)) (by (with_reducible repeat (first | refine zL ?_ _ | refine zN ?_ | refine zM ?_ _)); exact BK547.out) hb); have n2_ := zA (zAD (by repeat (first | (with_reducible first | exact HB.out | apply zH | apply zF | apply zG | refine zI ?_ GE546.out | refine zI ?_ GE547.out) | exact HB.out)) hb); have n3_ := zA (hbox); have n4_ := zA ((by rw [hg]; exact (zAE (by repeat (first | (with_reducible first | exact HB.out | apply zH | apply zF | apply zG | refine zI ?_ GE546.out | refine zI ?_ GE547.out) | exact HB.out))) : w.heap.size ≤ gb566)); have n5_ := zA ((by rw [hg]; exact (zAE (by repeat (first | (with_reducible first | exact HB.out | apply zH | apply zF | apply zG | refine zI ?_ GE546.out | refine zI ?_ GE547.out) | exact HB.out))) : w.heap.size ≤ gb566)); have n6_ := zA ((by rw [hg]; exact zK (blk_lt (g := gb546) (o := .cells #[.int .i64 t100, .int .i64 t541, .string t542] 27 (0, 0)) (by (with_reducible repeat (first | refine zL ?_ _ | refine zN ?_ | refine zM ?_ _)); exact BK546.out)) : gb546 ≠ gb566)); have n7_ := zA ((by rw [hg]; exact Nat.ne_of_gt (blk_lt (g := gb546) (o := .cells #[.int .i64 t100, .int .i64 t541, .string t542] 27 (0, 0)) (by (with_reducible repeat (first | refine zL ?_ _ | refine zN ?_ | refine zM ?_ _)); exact BK546.out)) : gb566 ≠ gb546)); have n8_ := zA ((by rw [hg]; exact zK (blk_lt (g := gb547) (o := .cells #[.int .i64 t543, .int .i64 t544, .string t545] 27 (0, 0)) (by (with_reducible repeat (first | refine zL ?_ _ | refine zN ?_ | refine zM ?_ _)); exact BK547.out)) : gb547 ≠ gb566)); have n9_ := zA ((by rw [hg]; exact Nat.ne_of_gt (blk_lt (g := gb547) (o := .cells #[.int .i64 t543, .int .i64 t544, .string t545] 27 (0, 0)) (by (with_reducible repeat (first | refine zL ?_ _ | refine zN ?_ | refine zM ?_ _)); exact BK547.out)) : gb566 ≠ gb547)); clear BK546; clear BK547; clear HB; have BK546 := n0_; have BK547 := n1_; have HB := n2_; have BK566 := n3_; have GW566 := n4_; have GE566 := n5_; have NB546_566 := n6_; have NB566_546 := n7_; have NB547_566 := n8_; have NB566_547 := n9_; clear n0_ n1_ n2_ n3_ n4_ n5_ n6_ n7_ n8_ n9_; clear hb hbox hg; have hnb64 := NB566_546.out; have hnc64 := NB546_566.out; have hnb65 := NB566_547.out; have hnc65 := NB547_566.out; have hcz66_0 : w63.cell? ⟨gb566, 0, none⟩ = some (.int .i64 0) := (zP BK566.out 0).trans rfl; have hcz66_1 : w63.cell? ⟨gb566, 1, none⟩ = some (.int .i64 0) := (zP BK566.out 1).trans rfl; have hcz66_2 : w63.cell? ⟨gb566, 2, none⟩ = some (.string (⟨#[]⟩ : ByteArray)) := (zP BK566.out 2).trans rfl; have hfz66_0 := zO BK566.out 0; have hfz66_1 := zO BK566.out 1; have hfz66_2 := zO BK566.out 2; have hnb67 := NB546_547.out; have hnc67 := NB547_546.out; have hcz68_0 : w63.cell? ⟨gb546, 0, none⟩ = some (.int .i64 t100) := (zP BK546.out 0).trans rfl; have hcz68_1 : w63.cell? ⟨gb546, 1, none⟩ = some (.int .i64 t541) := (zP BK546.out 1).trans rfl; have hcz68_2 : w63.cell? ⟨gb546, 2, none⟩ = some (.string t542) := (zP BK546.out 2).trans rfl; have hfz68_0 := zO BK546.out 0; have hfz68_1 := zO BK546.out 1; have hfz68_2 := zO BK546.out 2)); go_ret; exact ⟨by first | rfl | (simp <;> rfl) | (simp [*] <;> rfl), by repeat (first | (with_reducible first | exact HB.out | apply zH | apply zF | apply zG | refine zI ?_ GE546.out | refine zI ?_ GE547.out | refine zI ?_ GE566.out) | exact HB.out)⟩
               ·rw [if_neg c61] at H
                have c61b0 : (!(t561 == t100) || (!(t562 == t541) || (!(t563.toList == t542.toList)))) = false := by simpa using c61
                clear c61
                by_cases c69 : t564 = (t554.size : Int)
                ·rw [if_pos c69] at H
                 have c69b0 : (t564 == (t554.size : Int)) = true := beq_iff_eq.mpr c69; have c69b1 : (t564 != (t554.size : Int)) = false := bne_eq_false_iff_eq.mpr c69; clear c69
                 as_aux_lemma =>
                  have H' := zA H; clear H; go_wp2_with (first | ((with_reducible refine yB (f := 30) rfl ?_); refine goesL_ (some 142) rfl rfl Tryd.func30 (by kernel_rfl) rfl #[.string (t554 ++ t556), .int .i64 0] rfl (by (try simp only [zAA, zAB, zAC]); first | done | rfl) ?_; (with_reducible refine (impl_ReadValue.calls kj51 (t554 ++ t556) 0 t561 t562 t563 t564 true _ A59.out).mono ?_); rintro e w70 ⟨rfl, hb⟩; refine ⟨_, rfl, ?_⟩; have n0_ := zA (yE (g := gb546) (o := .cells #[.int .i64 t100, .int .i64 t541, .string t542] 27 (0, 0)) (by (with_reducible repeat (first | refine zL ?_ _ | refine zN ?_ | refine zM ?_ _)); exact BK546.out) hb); have n1_ := zA (yE (g := gb547) (o := .cells #[.int .i64 t543, .int .i64 t544, .string t545] 27 (0, 0)) (by (with_reducible repeat (first | refine zL ?_ _ | refine zN ?_ | refine zM ?_ _)); exact BK547.out) hb); have n2_ := zA (zAD (by repeat (first | (with_reducible first | exact HB.out | apply zH | apply zF | apply zG | refine zI ?_ GE546.out | refine zI ?_ GE547.out) | exact HB.out)) hb); clear BK546; clear BK547; clear HB; have BK546 := n0_; have BK547 := n1_; have HB := n2_; clear n0_ n1_ n2_; (try clear hb)) | ((with_reducible refine gate_dst (N := 17) rfl ?_); (try (refine gate_guard (by rfl) ?_; dsimp only)); refine box_event ?hg (N := 17) ?hd (cs := #[.int .i64 0, .int .i64 0, .string (⟨#[]⟩ : ByteArray)]) (t := 27) ?hr ?_; (case hd => rfl); (case hg => rfl); (case hr => first | (go_simp; done) | (go_simp; rfl)); intro gb566 hg w71 hbox hb; have n0_ := zA (yE (g := gb546) (o := .cells #[.int .i64 t100, .int .i64 t541, .string t542] 27 (0, 0)) (by (with_reducible repeat (first | refine zL ?_ _ | refine zN ?_ | refine zM ?_ _)); exact BK546.out) hb); have n1_ := zA (yE (g := gb547) (o := .cells #[.int .i64 t543, .int .i64 t544, .string t545] 27 (0, 0)) (by (with_reducible repeat (first | refine zL ?_ _ | refine zN ?_ | refine zM ?_ _)); exact BK547.out) hb); have n2_ := zA (zAD (by repeat (first | (with_reducible first | exact HB.out | apply zH | apply zF | apply zG | refine zI ?_ GE546.out | refine zI ?_ GE547.out) | exact HB.out)) hb); have n3_ := zA (hbox); have n4_ := zA ((by rw [hg]; exact (zAE (by repeat (first | (with_reducible first | exact HB.out | apply zH | apply zF | apply zG | refine zI ?_ GE546.out | refine zI ?_ GE547.out) | exact HB.out))) : w.heap.size ≤ gb566)); have n5_ := zA ((by rw [hg]; exact (zAE (by repeat (first | (with_reducible first | exact HB.out | apply zH | apply zF | apply zG | refine zI ?_ GE546.out | refine zI ?_ GE547.out) | exact HB.out))) : w.heap.size ≤ gb566)); have n6_ := zA ((by rw [hg]; exact zK (blk_lt (g := gb546) (o := .cells #[.int .i64 t100, .int .i64 t541, .string t542] 27 (0, 0)) (by (with_reducible repeat (first | refine zL ?_ _ | refine zN ?_ | refine zM ?_ _)); exact BK546.out)) : gb546 ≠ gb566)); have n7_ := zA ((by rw [hg]; exact Nat.ne_of_gt (blk_lt (g := gb546) (o := .cells #[.int .i64 t100, .int .i64 t541, .string t542] 27 (0, 0)) (by (with_reducible repeat (first | refine zL ?_ _ | refine zN ?_ | refine zM ?_ _)); exact BK546.out)) : gb566 ≠ gb546)); have n8_ := zA ((by rw [hg]; exact zK (blk_lt (g := gb547) (o := .cells #[.int .i64 t543, .int .i64 t544, .string t545] 27 (0, 0)) (by (with_reducible repeat (first | refine zL ?_ _ | refine zN ?_ | refine zM ?_ _)); exact BK547.out)) : gb547 ≠ gb566)); have n9_ := zA ((by rw [hg]; exact Nat.ne_of_gt (blk_lt (g := gb547) (o := .cells #[.int .i64 t543, .int .i64 t544, .string t545] 27 (0, 0)) (by (with_reducible repeat (first | refine zL ?_ _ | refine zN ?_ | refine zM ?_ _)); exact BK547.out)) : gb566 ≠ gb547)); clear BK546; clear BK547; clear HB; have BK546 := n0_; have BK547 := n1_; have HB := n2_; have BK566 := n3_; have GW566 := n4_; have GE566 := n5_; have NB546_566 := n6_; have NB566_546 := n7_; have NB547_566 := n8_; have NB566_547 := n9_; clear n0_ n1_ n2_ n3_ n4_ n5_ n6_ n7_ n8_ n9_; clear hb hbox hg; have hnb72 := NB566_546.out; have hnc72 := NB546_566.out; have hnb73 := NB566_547.out; have hnc73 := NB547_566.out; have hcz74_0 : w71.cell? ⟨gb566, 0, none⟩ = some (.int .i64 0) := (zP BK566.out 0).trans rfl; have hcz74_1 : w71.cell? ⟨gb566, 1, none⟩ = some (.int .i64 0) := (zP BK566.out 1).trans rfl; have hcz74_2 : w71.cell? ⟨gb566, 2, none⟩ = some (.string (⟨#[]⟩ : ByteArray)) := (zP BK566.out 2).trans rfl; have hfz74_0 := zO BK566.out 0; have hfz74_1 := zO BK566.out 1; have hfz74_2 := zO BK566.out 2; have hnb75 := NB546_547.out; have hnc75 := NB547_546.out; have hcz76_0 : w71.cell? ⟨gb546, 0, none⟩ = some (.int .i64 t100) := (zP BK546.out 0).trans rfl; have hcz76_1 : w71.cell? ⟨gb546, 1, none⟩ = some (.int .i64 t541) := (zP BK546.out 1).trans rfl; have hcz76_2 : w71.cell? ⟨gb546, 2, none⟩ = some (.string t542) := (zP BK546.out 2).trans rfl; have hfz76_0 := zO BK546.out 0; have hfz76_1 := zO BK546.out 1; have hfz76_2 := zO BK546.out 2)); go_meet
                  case rel => exact ⟨_, H', ⟨by have := HJ6.out; have := HJ32.out; have := HJ51.out; first | omega | exact Nat.le_refl _⟩, ⟨by (with_reducible repeat (first | refine zL ?_ _ | refine zN ?_ | refine zM ?_ _)); refine blk_far ?_ NB546_566.out _; (with_reducible repeat (first | refine zL ?_ _ | refine zN ?_ | refine zM ?_ _)); refine blk_far ?_ NB546_566.out _; (with_reducible repeat (first | refine zL ?_ _ | refine zN ?_ | refine zM ?_ _)); refine blk_far ?_ NB546_566.out _; (with_reducible repeat (first | refine zL ?_ _ | refine zN ?_ | refine zM ?_ _)); exact BK546.out⟩, ⟨by (with_reducible repeat (first | refine zL ?_ _ | refine zN ?_ | refine zM ?_ _)); refine blk_far ?_ NB547_566.out _; (with_reducible repeat (first | refine zL ?_ _ | refine zN ?_ | refine zM ?_ _)); refine blk_far ?_ NB547_566.out _; (with_reducible repeat (first | refine zL ?_ _ | refine zN ?_ | refine zM ?_ _)); refine blk_far ?_ NB547_566.out _; (with_reducible repeat (first | refine zL ?_ _ | refine zN ?_ | refine zM ?_ _)); exact BK547.out⟩, ⟨by repeat (first | (with_reducible first | exact HB.out | apply zH | apply zF | apply zG | refine zI ?_ GE546.out | refine zI ?_ GE547.out | refine zI ?_ GE566.out) | exact HB.out)⟩⟩
                ·rw [if_neg c69] at H
                 have c69b0 : (t564 == (t554.size : Int)) = false := beq_eq_false_iff_ne.mpr c69; have c69b1 : (t564 != (t554.size : Int)) = true := bne_iff_ne.mpr c69
                 as_aux_lemma =>
                  obtain rfl := Option.some.inj H; go_wp2_with (first | ((with_reducible refine yB (f := 30) rfl ?_); refine goesL_ (some 142) rfl rfl Tryd.func30 (by kernel_rfl) rfl #[.string (t554 ++ t556), .int .i64 0] rfl (by (try simp only [zAA, zAB, zAC]); first | done | rfl) ?_; (with_reducible refine (impl_ReadValue.calls kj51 (t554 ++ t556) 0 t561 t562 t563 t564 true _ A59.out).mono ?_); rintro e w77 ⟨rfl, hb⟩; refine ⟨_, rfl, ?_⟩; have n0_ := zA (yE (g := gb546) (o := .cells #[.int .i64 t100, .int .i64 t541, .string t542] 27 (0, 0)) (by (with_reducible repeat (first | refine zL ?_ _ | refine zN ?_ | refine zM ?_ _)); exact BK546.out) hb); have n1_ := zA (yE (g := gb547) (o := .cells #[.int .i64 t543, .int .i64 t544, .string t545] 27 (0, 0)) (by (with_reducible repeat (first | refine zL ?_ _ | refine zN ?_ | refine zM ?_ _)); exact BK547.out) hb); have n2_ := zA (zAD (by repeat (first | (with_reducible first | exact HB.out | apply zH | apply zF | apply zG | refine zI ?_ GE546.out | refine zI ?_ GE547.out) | exact HB.out)) hb); clear BK546; clear BK547; clear HB; have BK546 := n0_; have BK547 := n1_; have HB := n2_; clear n0_ n1_ n2_; (try clear hb)) | ((with_reducible refine gate_dst (N := 17) rfl ?_); (try (refine gate_guard (by rfl) ?_; dsimp only)); refine box_event ?hg (N := 17) ?hd (cs := #[.int .i64 0, .int .i64 0, .string (⟨#[]⟩ : ByteArray)]) (t := 27) ?hr ?_; (case hd => rfl); (case hg => rfl); (case hr => first | (go_simp; done) | (go_simp; rfl)); intro gb566 hg w78 hbox hb; have n0_ := zA (yE (g := gb546) (o := .cells #[.int .i64 t100, .int .i64 t541, .string t542] 27 (0, 0)) (by (with_reducible repeat (first | refine zL ?_ _ | refine zN ?_ | refine zM ?_ _)); exact BK546.out) hb); have n1_ := zA (yE (g := gb547) (o := .cells #[.int .i64 t543, .int .i64 t544, .string t545] 27 (0, 0)) (by (with_reducible repeat (first | refine zL ?_ _ | refine zN ?_ | refine zM ?_ _)); exact BK547.out) hb); have n2_ := zA (zAD (by repeat (first | (with_reducible first | exact HB.out | apply zH | apply zF | apply zG | refine zI ?_ GE546.out | refine zI ?_ GE547.out) | exact HB.out)) hb); have n3_ := zA (hbox); have n4_ := zA ((by rw [hg]; exact (zAE (by repeat (first | (with_reducible first | exact HB.out | apply zH | apply zF | apply zG | refine zI ?_ GE546.out | refine zI ?_ GE547.out) | exact HB.out))) : w.heap.size ≤ gb566)); have n5_ := zA ((by rw [hg]; exact (zAE (by repeat (first | (with_reducible first | exact HB.out | apply zH | apply zF | apply zG | refine zI ?_ GE546.out | refine zI ?_ GE547.out) | exact HB.out))) : w.heap.size ≤ gb566)); have n6_ := zA ((by rw [hg]; exact zK (blk_lt (g := gb546) (o := .cells #[.int .i64 t100, .int .i64 t541, .string t542] 27 (0, 0)) (by (with_reducible repeat (first | refine zL ?_ _ | refine zN ?_ | refine zM ?_ _)); exact BK546.out)) : gb546 ≠ gb566)); have n7_ := zA ((by rw [hg]; exact Nat.ne_of_gt (blk_lt (g := gb546) (o := .cells #[.int .i64 t100, .int .i64 t541, .string t542] 27 (0, 0)) (by (with_reducible repeat (first | refine zL ?_ _ | refine zN ?_ | refine zM ?_ _)); exact BK546.out)) : gb566 ≠ gb546)); have n8_ := zA ((by rw [hg]; exact zK (blk_lt (g := gb547) (o := .cells #[.int .i64 t543, .int .i64 t544, .string t545] 27 (0, 0)) (by (with_reducible repeat (first | refine zL ?_ _ | refine zN ?_ | refine zM ?_ _)); exact BK547.out)) : gb547 ≠ gb566)); have n9_ := zA ((by rw [hg]; exact Nat.ne_of_gt (blk_lt (g := gb547) (o := .cells #[.int .i64 t543, .int .i64 t544, .string t545] 27 (0, 0)) (by (with_reducible repeat (first | refine zL ?_ _ | refine zN ?_ | refine zM ?_ _)); exact BK547.out)) : gb566 ≠ gb547)); clear BK546; clear BK547; clear HB; have BK546 := n0_; have BK547 := n1_; have HB := n2_; have BK566 := n3_; have GW566 := n4_; have GE566 := n5_; have NB546_566 := n6_; have NB566_546 := n7_; have NB547_566 := n8_; have NB566_547 := n9_; clear n0_ n1_ n2_ n3_ n4_ n5_ n6_ n7_ n8_ n9_; clear hb hbox hg; have hnb79 := NB566_546.out; have hnc79 := NB546_566.out; have hnb80 := NB566_547.out; have hnc80 := NB547_566.out; have hcz81_0 : w78.cell? ⟨gb566, 0, none⟩ = some (.int .i64 0) := (zP BK566.out 0).trans rfl; have hcz81_1 : w78.cell? ⟨gb566, 1, none⟩ = some (.int .i64 0) := (zP BK566.out 1).trans rfl; have hcz81_2 : w78.cell? ⟨gb566, 2, none⟩ = some (.string (⟨#[]⟩ : ByteArray)) := (zP BK566.out 2).trans rfl; have hfz81_0 := zO BK566.out 0; have hfz81_1 := zO BK566.out 1; have hfz81_2 := zO BK566.out 2; have hnb82 := NB546_547.out; have hnc82 := NB547_546.out; have hcz83_0 : w78.cell? ⟨gb546, 0, none⟩ = some (.int .i64 t100) := (zP BK546.out 0).trans rfl; have hcz83_1 : w78.cell? ⟨gb546, 1, none⟩ = some (.int .i64 t541) := (zP BK546.out 1).trans rfl; have hcz83_2 : w78.cell? ⟨gb546, 2, none⟩ = some (.string t542) := (zP BK546.out 2).trans rfl; have hfz83_0 := zO BK546.out 0; have hfz83_1 := zO BK546.out 1; have hfz83_2 := zO BK546.out 2)); go_ret; exact ⟨by first | rfl | (simp <;> rfl) | (simp [*] <;> rfl), by repeat (first | (with_reducible first | exact HB.out | apply zH | apply zF | apply zG | refine zI ?_ GE546.out | refine zI ?_ GE547.out | refine zI ?_ GE566.out) | exact HB.out)⟩
              ·replace c60 := Bool.eq_false_iff.mpr c60
               subst c60; have H1 : (some false) = some r := by rw [if_neg (show ¬ (false = true) by decide)] at H; exact H
               clear H; have H := H1; clear H1
               as_aux_lemma =>
                obtain rfl := Option.some.inj H; go_wp2_with (first | ((with_reducible refine yB (f := 30) rfl ?_); refine goesL_ (some 142) rfl rfl Tryd.func30 (by kernel_rfl) rfl #[.string (t554 ++ t556), .int .i64 0] rfl (by (try simp only [zAA, zAB, zAC]); first | done | rfl) ?_; (with_reducible refine (impl_ReadValue.calls kj51 (t554 ++ t556) 0 t561 t562 t563 t564 false _ A59.out).mono ?_); rintro e w84 ⟨rfl, hb⟩; refine ⟨_, rfl, ?_⟩; have n0_ := zA (yE (g := gb546) (o := .cells #[.int .i64 t100, .int .i64 t541, .string t542] 27 (0, 0)) (by (with_reducible repeat (first | refine zL ?_ _ | refine zN ?_ | refine zM ?_ _)); exact BK546.out) hb); have n1_ := zA (yE (g := gb547) (o := .cells #[.int .i64 t543, .int .i64 t544, .string t545] 27 (0, 0)) (by (with_reducible repeat (first | refine zL ?_ _ | refine zN ?_ | refine zM ?_ _)); exact BK547.out) hb); have n2_ := zA (zAD (by repeat (first | (with_reducible first | exact HB.out | apply zH | apply zF | apply zG | refine zI ?_ GE546.out | refine zI ?_ GE547.out) | exact HB.out)) hb); clear BK546; clear BK547; clear HB; have BK546 := n0_; have BK547 := n1_; have HB := n2_; clear n0_ n1_ n2_; (try clear hb)) | ((with_reducible refine gate_dst (N := 17) rfl ?_); (try (refine gate_guard (by rfl) ?_; dsimp only)); refine box_event ?hg (N := 17) ?hd (cs := #[.int .i64 0, .int .i64 0, .string (⟨#[]⟩ : ByteArray)]) (t := 27) ?hr ?_; (case hd => rfl); (case hg => rfl); (case hr => first | (go_simp; done) | (go_simp; rfl)); intro gb566 hg w85 hbox hb; have n0_ := zA (yE (g := gb546) (o := .cells #[.int .i64 t100, .int .i64 t541, .string t542] 27 (0, 0)) (by (with_reducible repeat (first | refine zL ?_ _ | refine zN ?_ | refine zM ?_ _)); exact BK546.out) hb); have n1_ := zA (yE (g := gb547) (o := .cells #[.int .i64 t543, .int .i64 t544, .string t545] 27 (0, 0)) (by (with_reducible repeat (first | refine zL ?_ _ | refine zN ?_ | refine zM ?_ _)); exact BK547.out) hb); have n2_ := zA (zAD (by repeat (first | (with_reducible first | exact HB.out | apply zH | apply zF | apply zG | refine zI ?_ GE546.out | refine zI ?_ GE547.out) | exact HB.out)) hb); have n3_ := zA (hbox); have n4_ := zA ((by rw [hg]; exact (zAE (by repeat (first | (with_reducible first | exact HB.out | apply zH | apply zF | apply zG | refine zI ?_ GE546.out | refine zI ?_ GE547.out) | exact HB.out))) : w.heap.size ≤ gb566)); have n5_ := zA ((by rw [hg]; exact (zAE (by repeat (first | (with_reducible first | exact HB.out | apply zH | apply zF | apply zG | refine zI ?_ GE546.out | refine zI ?_ GE547.out) | exact HB.out))) : w.heap.size ≤ gb566)); have n6_ := zA ((by rw [hg]; exact zK (blk_lt (g := gb546) (o := .cells #[.int .i64 t100, .int .i64 t541, .string t542] 27 (0, 0)) (by (with_reducible repeat (first | refine zL ?_ _ | refine zN ?_ | refine zM ?_ _)); exact BK546.out)) : gb546 ≠ gb566)); have n7_ := zA ((by rw [hg]; exact Nat.ne_of_gt (blk_lt (g := gb546) (o := .cells #[.int .i64 t100, .int .i64 t541, .string t542] 27 (0, 0)) (by (with_reducible repeat (first | refine zL ?_ _ | refine zN ?_ | refine zM ?_ _)); exact BK546.out)) : gb566 ≠ gb546)); have n8_ := zA ((by rw [hg]; exact zK (blk_lt (g := gb547) (o := .cells #[.int .i64 t543, .int .i64 t544, .string t545] 27 (0, 0)) (by (with_reducible repeat (first | refine zL ?_ _ | refine zN ?_ | refine zM ?_ _)); exact BK547.out)) : gb547 ≠ gb566)); have n9_ := zA ((by rw [hg]; exact Nat.ne_of_gt (blk_lt (g := gb547) (o := .cells #[.int .i64 t543, .int .i64 t544, .string t545] 27 (0, 0)) (by (with_reducible repeat (first | refine zL ?_ _ | refine zN ?_ | refine zM ?_ _)); exact BK547.out)) : gb566 ≠ gb547)); clear BK546; clear BK547; clear HB; have BK546 := n0_; have BK547 := n1_; have HB := n2_; have BK566 := n3_; have GW566 := n4_; have GE566 := n5_; have NB546_566 := n6_; have NB566_546 := n7_; have NB547_566 := n8_; have NB566_547 := n9_; clear n0_ n1_ n2_ n3_ n4_ n5_ n6_ n7_ n8_ n9_; clear hb hbox hg; have hnb86 := NB566_546.out; have hnc86 := NB546_566.out; have hnb87 := NB566_547.out; have hnc87 := NB547_566.out; have hcz88_0 : w85.cell? ⟨gb566, 0, none⟩ = some (.int .i64 0) := (zP BK566.out 0).trans rfl; have hcz88_1 : w85.cell? ⟨gb566, 1, none⟩ = some (.int .i64 0) := (zP BK566.out 1).trans rfl; have hcz88_2 : w85.cell? ⟨gb566, 2, none⟩ = some (.string (⟨#[]⟩ : ByteArray)) := (zP BK566.out 2).trans rfl; have hfz88_0 := zO BK566.out 0; have hfz88_1 := zO BK566.out 1; have hfz88_2 := zO BK566.out 2)); go_ret; exact ⟨by first | rfl | (simp <;> rfl) | (simp [*] <;> rfl), by repeat (first | (with_reducible first | exact HB.out | apply zH | apply zF | apply zG | refine zI ?_ GE546.out | refine zI ?_ GE547.out | refine zI ?_ GE566.out) | exact HB.out)⟩
             ·rw [if_neg c58] at H
              exact absurd H (by simp)
      ·replace c29 := Bool.eq_false_iff.mpr c29
       subst c29; have H1 : (laws_FnOrder.j3 kj6 l1) = some r := by rw [if_neg (show ¬ (false = true) by decide)] at H; exact H
       clear H; have H := H1; clear H1
       as_aux_lemma =>
        have H' := zA H; clear H; go_wp2; go_meet
        case rel => exact ⟨_, H', ⟨by have := HJ6.out; first | omega | exact Nat.le_refl _⟩, ⟨by (with_reducible repeat (first | refine zL ?_ _ | refine zN ?_ | refine zM ?_ _)); exact BK546.out⟩, ⟨by (with_reducible repeat (first | refine zL ?_ _ | refine zN ?_ | refine zM ?_ _)); exact BK547.out⟩, ⟨by repeat (first | (with_reducible first | exact HB.out | apply zH | apply zF | apply zG | refine zI ?_ GE546.out | refine zI ?_ GE547.out) | exact HB.out)⟩⟩
     case rest =>
      clear HC28
      try clear c1
      try clear c2
      try clear p2
      try clear c3
      try clear c3b0
      try clear c4
      try clear c5
      try clear c6
      try clear p6
      try clear c7
      try clear c8
      try clear c11
      try clear c18
      try clear c18b0
      try clear c18b1
      try clear c18b2
      try clear c20
      try clear c20b0
      try clear c20b1
      try clear c24
      try clear c25
      try clear c26
      try clear c27
      try clear c28
      try clear c29
      try clear c30
      try clear c34
      try clear c42
      try clear c43
      try clear c45
      try clear c45b0
      try clear c45b1
      try clear c46
      try clear c47
      try clear c47b0
      try clear c47b1
      try clear c48
      try clear c51
      try clear c53
      try clear c53b0
      try clear c53b1
      try clear c54
      try clear c54b0
      try clear c54b1
      try clear c55
      try clear c55b0
      try clear c55b1
      try clear c56
      try clear c56b0
      try clear c57
      try clear c58
      try clear c58b0
      try clear c58b1
      try clear c58b2
      try clear c60
      try clear c61
      try clear c61b0
      try clear c64
      try clear p64
      try clear c65
      try clear c67
      try clear c69
      try clear c69b0
      try clear c69b1
      try clear c72
      try clear c73
      try clear c75
      try clear c79
      try clear c80
      try clear c82
      try clear c86
      try clear c87
      try clear hcz12_0
      try clear hcz12_1
      try clear hcz12_2
      try clear hcz13_0
      try clear hcz13_1
      try clear hcz13_2
      try clear hcz15_0
      try clear hcz15_1
      try clear hcz15_2
      try clear hcz16_0
      try clear hcz16_1
      try clear hcz16_2
      try clear hcz35_0
      try clear hcz35_1
      try clear hcz35_2
      try clear hcz37_0
      try clear hcz37_1
      try clear hcz37_2
      try clear hcz39_0
      try clear hcz39_1
      try clear hcz39_2
      try clear hcz40_0
      try clear hcz40_1
      try clear hcz40_2
      try clear hcz49_0
      try clear hcz49_1
      try clear hcz49_2
      try clear hcz50_0
      try clear hcz50_1
      try clear hcz50_2
      try clear hcz66_0
      try clear hcz66_1
      try clear hcz66_2
      try clear hcz68_0
      try clear hcz68_1
      try clear hcz68_2
      try clear hcz74_0
      try clear hcz74_1
      try clear hcz74_2
      try clear hcz76_0
      try clear hcz76_1
      try clear hcz76_2
      try clear hcz81_0
      try clear hcz81_1
      try clear hcz81_2
      try clear hcz83_0
      try clear hcz83_1
      try clear hcz83_2
      try clear hcz88_0
      try clear hcz88_1
      try clear hcz88_2
      try clear hfz12_0
      try clear hfz12_1
      try clear hfz12_2
      try clear hfz13_0
      try clear hfz13_1
      try clear hfz13_2
      try clear hfz15_0
      try clear hfz15_1
      try clear hfz15_2
      try clear hfz16_0
      try clear hfz16_1
      try clear hfz16_2
      try clear hfz35_0
      try clear hfz35_1
      try clear hfz35_2
      try clear hfz37_0
      try clear hfz37_1
      try clear hfz37_2
      try clear hfz39_0
      try clear hfz39_1
      try clear hfz39_2
      try clear hfz40_0
      try clear hfz40_1
      try clear hfz40_2
      try clear hfz49_0
      try clear hfz49_1
      try clear hfz49_2
      try clear hfz50_0
      try clear hfz50_1
      try clear hfz50_2
      try clear hfz66_0
      try clear hfz66_1
      try clear hfz66_2
      try clear hfz68_0
      try clear hfz68_1
      try clear hfz68_2
      try clear hfz74_0
      try clear hfz74_1
      try clear hfz74_2
      try clear hfz76_0
      try clear hfz76_1
      try clear hfz76_2
      try clear hfz81_0
      try clear hfz81_1
      try clear hfz81_2
      try clear hfz83_0
      try clear hfz83_1
      try clear hfz83_2
      try clear hfz88_0
      try clear hfz88_1
      try clear hfz88_2
      try clear p2
      try clear p6
      obtain ⟨kq, HA, HJ27, BK546, BK547, HB⟩ := hcut
      cases kq with
      | zero => exact absurd HA.out (by simp [laws_FnOrder.j3])
      | succ kj27 =>
       have H := HA.out; clear HA; simp only [laws_FnOrder.j3] at H; replace H := zAF H; obtain ⟨⟨t567, t568⟩, A890, H⟩ := H; replace H : ((impl_ReadValue.f kj27 t567 t568).bind fun bt569 => ((spec_ReadValue.f kj27 t567 t568).bind fun bt575 => ((spec_DrawValueBytes.f l1).bind fun bt581 => ((impl_ValueBytes.f bt581.1 bt581.2.1 bt581.2.2).bind fun bt585 => ((spec_ValueBytes.f kj27 bt581.1 bt581.2.1 bt581.2.2).bind fun bt587 => (if (bt569.2.2.2.2 != bt575.2.2.2.2) = true then (laws_FnOrder.j4 kj27 t567 t568 bt569.2.2.2.1 bt569.2.2.2.2 true bt569.1 bt569.2.1 bt569.2.2.1) else (if (!(bt569.1 == bt575.1) || (!(bt569.2.1 == bt575.2.1) || (!(bt569.2.2.1.toList == bt575.2.2.1.toList)))) = true then (laws_FnOrder.j4 kj27 t567 t568 bt569.2.2.2.1 bt569.2.2.2.2 true bt569.1 bt569.2.1 bt569.2.2.1) else (if bt569.2.2.2.1 = bt575.2.2.2.1 then (if (bt585.2 != bt587.2) = true then (laws_FnOrder.j4 kj27 t567 t568 bt569.2.2.2.1 bt569.2.2.2.2 true bt569.1 bt569.2.1 bt569.2.2.1) else (laws_FnOrder.j4 kj27 t567 t568 bt569.2.2.2.1 bt569.2.2.2.2 (bt585.1.toList != bt587.1.toList) bt569.1 bt569.2.1 bt569.2.2.1)) else (laws_FnOrder.j4 kj27 t567 t568 bt569.2.2.2.1 bt569.2.2.2.2 true bt569.1 bt569.2.1 bt569.2.2.1))))))))) = some r := H; have A89 := zA A890; clear A890; replace H := zAF H; obtain ⟨⟨t569, t570, t571, t572, t573⟩, A900, H⟩ := H; replace H : ((spec_ReadValue.f kj27 t567 t568).bind fun bt575 => ((spec_DrawValueBytes.f l1).bind fun bt581 => ((impl_ValueBytes.f bt581.1 bt581.2.1 bt581.2.2).bind fun bt585 => ((spec_ValueBytes.f kj27 bt581.1 bt581.2.1 bt581.2.2).bind fun bt587 => (if (t573 != bt575.2.2.2.2) = true then (laws_FnOrder.j4 kj27 t567 t568 t572 t573 true t569 t570 t571) else (if (!(t569 == bt575.1) || (!(t570 == bt575.2.1) || (!(t571.toList == bt575.2.2.1.toList)))) = true then (laws_FnOrder.j4 kj27 t567 t568 t572 t573 true t569 t570 t571) else (if t572 = bt575.2.2.2.1 then (if (bt585.2 != bt587.2) = true then (laws_FnOrder.j4 kj27 t567 t568 t572 t573 true t569 t570 t571) else (laws_FnOrder.j4 kj27 t567 t568 t572 t573 (bt585.1.toList != bt587.1.toList) t569 t570 t571)) else (laws_FnOrder.j4 kj27 t567 t568 t572 t573 true t569 t570 t571)))))))) = some r := H; have A90 := zA A900; clear A900; replace H := zAF H; obtain ⟨⟨t575, t576, t577, t578, t579⟩, A910, H⟩ := H; replace H : ((spec_DrawValueBytes.f l1).bind fun bt581 => ((impl_ValueBytes.f bt581.1 bt581.2.1 bt581.2.2).bind fun bt585 => ((spec_ValueBytes.f kj27 bt581.1 bt581.2.1 bt581.2.2).bind fun bt587 => (if (t573 != t579) = true then (laws_FnOrder.j4 kj27 t567 t568 t572 t573 true t569 t570 t571) else (if (!(t569 == t575) || (!(t570 == t576) || (!(t571.toList == t577.toList)))) = true then (laws_FnOrder.j4 kj27 t567 t568 t572 t573 true t569 t570 t571) else (if t572 = t578 then (if (bt585.2 != bt587.2) = true then (laws_FnOrder.j4 kj27 t567 t568 t572 t573 true t569 t570 t571) else (laws_FnOrder.j4 kj27 t567 t568 t572 t573 (bt585.1.toList != bt587.1.toList) t569 t570 t571)) else (laws_FnOrder.j4 kj27 t567 t568 t572 t573 true t569 t570 t571))))))) = some r := H; have A91 := zA A910; clear A910; replace H := zAF H; obtain ⟨⟨t581, t582, t583⟩, A920, H⟩ := H; replace H : ((impl_ValueBytes.f t581 t582 t583).bind fun bt585 => ((spec_ValueBytes.f kj27 t581 t582 t583).bind fun bt587 => (if (t573 != t579) = true then (laws_FnOrder.j4 kj27 t567 t568 t572 t573 true t569 t570 t571) else (if (!(t569 == t575) || (!(t570 == t576) || (!(t571.toList == t577.toList)))) = true then (laws_FnOrder.j4 kj27 t567 t568 t572 t573 true t569 t570 t571) else (if t572 = t578 then (if (bt585.2 != bt587.2) = true then (laws_FnOrder.j4 kj27 t567 t568 t572 t573 true t569 t570 t571) else (laws_FnOrder.j4 kj27 t567 t568 t572 t573 (bt585.1.toList != bt587.1.toList) t569 t570 t571)) else (laws_FnOrder.j4 kj27 t567 t568 t572 t573 true t569 t570 t571)))))) = some r := H; have A92 := zA A920; clear A920; replace H := zAF H; obtain ⟨⟨t585, t586⟩, A930, H⟩ := H; replace H : ((spec_ValueBytes.f kj27 t581 t582 t583).bind fun bt587 => (if (t573 != t579) = true then (laws_FnOrder.j4 kj27 t567 t568 t572 t573 true t569 t570 t571) else (if (!(t569 == t575) || (!(t570 == t576) || (!(t571.toList == t577.toList)))) = true then (laws_FnOrder.j4 kj27 t567 t568 t572 t573 true t569 t570 t571) else (if t572 = t578 then (if (t586 != bt587.2) = true then (laws_FnOrder.j4 kj27 t567 t568 t572 t573 true t569 t570 t571) else (laws_FnOrder.j4 kj27 t567 t568 t572 t573 (t585.toList != bt587.1.toList) t569 t570 t571)) else (laws_FnOrder.j4 kj27 t567 t568 t572 t573 true t569 t570 t571))))) = some r := H; have A93 := zA A930; clear A930; replace H := zAF H; obtain ⟨⟨t587, t588⟩, A940, H⟩ := H; replace H : (if (t573 != t579) = true then (laws_FnOrder.j4 kj27 t567 t568 t572 t573 true t569 t570 t571) else (if (!(t569 == t575) || (!(t570 == t576) || (!(t571.toList == t577.toList)))) = true then (laws_FnOrder.j4 kj27 t567 t568 t572 t573 true t569 t570 t571) else (if t572 = t578 then (if (t586 != t588) = true then (laws_FnOrder.j4 kj27 t567 t568 t572 t573 true t569 t570 t571) else (laws_FnOrder.j4 kj27 t567 t568 t572 t573 (t585.toList != t587.toList) t569 t570 t571)) else (laws_FnOrder.j4 kj27 t567 t568 t572 t573 true t569 t570 t571)))) = some r := H; have A94 := zA A940; clear A940; have HC95 := zA H; clear H; go_upto_region 25 with (first | ((with_reducible refine yB (f := 31) rfl ?_); refine goesL_ (some 161) rfl rfl Tryd.func31 (by kernel_rfl) rfl #[.slice A1 l1.length c1] rfl (by (try simp only [zAA, zAB, zAC]); first | done | rfl | (simp only [zZ, zY]; rfl)) ?_; (with_reducible refine (spec_DrawReadValue.calls kj27 _ _ l1 t567 t568 _ ?side1 ?side2 A89.out).mono ?_); (case side1 => repeat (first | exact (Kd.C_below HR1.out HB.out) | (with_reducible refine zT ?_ _) | (with_reducible refine zU ?_ _) | (with_reducible refine zV ?_))); (case side2 => exact HC1.out); rintro e w96 ⟨rfl, hb⟩; refine ⟨_, rfl, ?_⟩; have n0_ := zA (yE (g := gb546) (o := .cells #[.int .i64 t100, .int .i64 t541, .string t542] 27 (0, 0)) (by (with_reducible repeat (first | refine zL ?_ _ | refine zN ?_ | refine zM ?_ _)); exact BK546.out) hb); have n1_ := zA (yE (g := gb547) (o := .cells #[.int .i64 t543, .int .i64 t544, .string t545] 27 (0, 0)) (by (with_reducible repeat (first | refine zL ?_ _ | refine zN ?_ | refine zM ?_ _)); exact BK547.out) hb); have n2_ := zA (zAD (by repeat (first | (with_reducible first | exact HB.out | apply zH | apply zF | apply zG | refine zI ?_ GE546.out | refine zI ?_ GE547.out) | exact HB.out)) hb); clear BK546; clear BK547; clear HB; have BK546 := n0_; have BK547 := n1_; have HB := n2_; clear n0_ n1_ n2_; (try clear hb)) | ((with_reducible refine yB (f := 30) rfl ?_); refine goesL_ (some 167) rfl rfl Tryd.func30 (by kernel_rfl) rfl #[.string t567, .int .i64 t568] rfl (by (try simp only [zAA, zAB, zAC]); first | done | rfl) ?_; (with_reducible refine (impl_ReadValue.calls kj27 t567 t568 t569 t570 t571 t572 t573 _ A90.out).mono ?_); rintro e w97 ⟨rfl, hb⟩; refine ⟨_, rfl, ?_⟩; have n0_ := zA (yE (g := gb546) (o := .cells #[.int .i64 t100, .int .i64 t541, .string t542] 27 (0, 0)) (by (with_reducible repeat (first | refine zL ?_ _ | refine zN ?_ | refine zM ?_ _)); exact BK546.out) hb); have n1_ := zA (yE (g := gb547) (o := .cells #[.int .i64 t543, .int .i64 t544, .string t545] 27 (0, 0)) (by (with_reducible repeat (first | refine zL ?_ _ | refine zN ?_ | refine zM ?_ _)); exact BK547.out) hb); have n2_ := zA (zAD (by repeat (first | (with_reducible first | exact HB.out | apply zH | apply zF | apply zG | refine zI ?_ GE546.out | refine zI ?_ GE547.out) | exact HB.out)) hb); clear BK546; clear BK547; clear HB; have BK546 := n0_; have BK547 := n1_; have HB := n2_; clear n0_ n1_ n2_; (try clear hb)) | ((with_reducible refine gate_dst (N := 22) rfl ?_); (try (refine gate_guard (by rfl) ?_; dsimp only)); refine box_event ?hg (N := 22) ?hd (cs := #[.int .i64 0, .int .i64 0, .string (⟨#[]⟩ : ByteArray)]) (t := 27) ?hr ?_; (case hd => rfl); (case hg => rfl); (case hr => first | (go_simp; done) | (go_simp; rfl)); intro gb574 hg w98 hbox hb; have n0_ := zA (yE (g := gb546) (o := .cells #[.int .i64 t100, .int .i64 t541, .string t542] 27 (0, 0)) (by (with_reducible repeat (first | refine zL ?_ _ | refine zN ?_ | refine zM ?_ _)); exact BK546.out) hb); have n1_ := zA (yE (g := gb547) (o := .cells #[.int .i64 t543, .int .i64 t544, .string t545] 27 (0, 0)) (by (with_reducible repeat (first | refine zL ?_ _ | refine zN ?_ | refine zM ?_ _)); exact BK547.out) hb); have n2_ := zA (zAD (by repeat (first | (with_reducible first | exact HB.out | apply zH | apply zF | apply zG | refine zI ?_ GE546.out | refine zI ?_ GE547.out) | exact HB.out)) hb); have n3_ := zA (hbox); have n4_ := zA ((by rw [hg]; exact (zAE (by repeat (first | (with_reducible first | exact HB.out | apply zH | apply zF | apply zG | refine zI ?_ GE546.out | refine zI ?_ GE547.out) | exact HB.out))) : w.heap.size ≤ gb574)); have n5_ := zA ((by rw [hg]; exact (zAE (by repeat (first | (with_reducible first | exact HB.out | apply zH | apply zF | apply zG | refine zI ?_ GE546.out | refine zI ?_ GE547.out) | exact HB.out))) : w.heap.size ≤ gb574)); have n6_ := zA ((by rw [hg]; exact zK (blk_lt (g := gb546) (o := .cells #[.int .i64 t100, .int .i64 t541, .string t542] 27 (0, 0)) (by (with_reducible repeat (first | refine zL ?_ _ | refine zN ?_ | refine zM ?_ _)); exact BK546.out)) : gb546 ≠ gb574)); have n7_ := zA ((by rw [hg]; exact Nat.ne_of_gt (blk_lt (g := gb546) (o := .cells #[.int .i64 t100, .int .i64 t541, .string t542] 27 (0, 0)) (by (with_reducible repeat (first | refine zL ?_ _ | refine zN ?_ | refine zM ?_ _)); exact BK546.out)) : gb574 ≠ gb546)); have n8_ := zA ((by rw [hg]; exact zK (blk_lt (g := gb547) (o := .cells #[.int .i64 t543, .int .i64 t544, .string t545] 27 (0, 0)) (by (with_reducible repeat (first | refine zL ?_ _ | refine zN ?_ | refine zM ?_ _)); exact BK547.out)) : gb547 ≠ gb574)); have n9_ := zA ((by rw [hg]; exact Nat.ne_of_gt (blk_lt (g := gb547) (o := .cells #[.int .i64 t543, .int .i64 t544, .string t545] 27 (0, 0)) (by (with_reducible repeat (first | refine zL ?_ _ | refine zN ?_ | refine zM ?_ _)); exact BK547.out)) : gb574 ≠ gb547)); clear BK546; clear BK547; clear HB; have BK546 := n0_; have BK547 := n1_; have HB := n2_; have BK574 := n3_; have GW574 := n4_; have GE574 := n5_; have NB546_574 := n6_; have NB574_546 := n7_; have NB547_574 := n8_; have NB574_547 := n9_; clear n0_ n1_ n2_ n3_ n4_ n5_ n6_ n7_ n8_ n9_; clear hb hbox hg; have hnb99 := NB574_546.out; have hnc99 := NB546_574.out; have hnb100 := NB574_547.out; have hnc100 := NB547_574.out; have hcz101_0 : w98.cell? ⟨gb574, 0, none⟩ = some (.int .i64 0) := (zP BK574.out 0).trans rfl; have hcz101_1 : w98.cell? ⟨gb574, 1, none⟩ = some (.int .i64 0) := (zP BK574.out 1).trans rfl; have hcz101_2 : w98.cell? ⟨gb574, 2, none⟩ = some (.string (⟨#[]⟩ : ByteArray)) := (zP BK574.out 2).trans rfl; have hfz101_0 := zO BK574.out 0; have hfz101_1 := zO BK574.out 1; have hfz101_2 := zO BK574.out 2) | ((with_reducible refine yB (f := 32) rfl ?_); refine goesL_ (some 174) rfl rfl Tryd.func32 (by kernel_rfl) rfl #[.string t567, .int .i64 t568] rfl (by (try simp only [zAA, zAB, zAC]); first | done | rfl) ?_; (with_reducible refine (spec_ReadValue.calls kj27 t567 t568 t575 t576 t577 t578 t579 _ A91.out).mono ?_); rintro e w102 ⟨rfl, hb⟩; refine ⟨_, rfl, ?_⟩; have n0_ := zA (yE (g := gb546) (o := .cells #[.int .i64 t100, .int .i64 t541, .string t542] 27 (0, 0)) (by (with_reducible repeat (first | refine zL ?_ _ | refine zN ?_ | refine zM ?_ _)); refine blk_far ?_ NB546_574.out _; (with_reducible repeat (first | refine zL ?_ _ | refine zN ?_ | refine zM ?_ _)); refine blk_far ?_ NB546_574.out _; (with_reducible repeat (first | refine zL ?_ _ | refine zN ?_ | refine zM ?_ _)); refine blk_far ?_ NB546_574.out _; (with_reducible repeat (first | refine zL ?_ _ | refine zN ?_ | refine zM ?_ _)); exact BK546.out) hb); have n1_ := zA (yE (g := gb547) (o := .cells #[.int .i64 t543, .int .i64 t544, .string t545] 27 (0, 0)) (by (with_reducible repeat (first | refine zL ?_ _ | refine zN ?_ | refine zM ?_ _)); refine blk_far ?_ NB547_574.out _; (with_reducible repeat (first | refine zL ?_ _ | refine zN ?_ | refine zM ?_ _)); refine blk_far ?_ NB547_574.out _; (with_reducible repeat (first | refine zL ?_ _ | refine zN ?_ | refine zM ?_ _)); refine blk_far ?_ NB547_574.out _; (with_reducible repeat (first | refine zL ?_ _ | refine zN ?_ | refine zM ?_ _)); exact BK547.out) hb); have n2_ := zA (yE (g := gb574) (o := .cells #[.int .i64 t569, .int .i64 t570, .string t571] 27 (0, 0)) (by (with_reducible repeat (first | refine zL ?_ _ | refine zN ?_ | refine zM ?_ _)); refine blk_put (cs := #[.int .i64 t569, .int .i64 t570, .string (⟨#[]⟩ : ByteArray)]) ?_ 2 _ rfl; (with_reducible repeat (first | refine zL ?_ _ | refine zN ?_ | refine zM ?_ _)); refine blk_put (cs := #[.int .i64 t569, .int .i64 0, .string (⟨#[]⟩ : ByteArray)]) ?_ 1 _ rfl; (with_reducible repeat (first | refine zL ?_ _ | refine zN ?_ | refine zM ?_ _)); refine blk_put (cs := #[.int .i64 0, .int .i64 0, .string (⟨#[]⟩ : ByteArray)]) ?_ 0 _ rfl; (with_reducible repeat (first | refine zL ?_ _ | refine zN ?_ | refine zM ?_ _)); exact BK574.out) hb); have n3_ := zA (zAD (by repeat (first | (with_reducible first | exact HB.out | apply zH | apply zF | apply zG | refine zI ?_ GE546.out | refine zI ?_ GE547.out | refine zI ?_ GE574.out) | exact HB.out)) hb); clear BK546; clear BK547; clear BK574; clear HB; have BK546 := n0_; have BK547 := n1_; have BK574 := n2_; have HB := n3_; clear n0_ n1_ n2_ n3_; (try clear hb)) | ((with_reducible refine gate_dst (N := 25) rfl ?_); (try (refine gate_guard (by rfl) ?_; dsimp only)); refine box_event ?hg (N := 25) ?hd (cs := #[.int .i64 0, .int .i64 0, .string (⟨#[]⟩ : ByteArray)]) (t := 27) ?hr ?_; (case hd => rfl); (case hg => rfl); (case hr => first | (go_simp; done) | (go_simp; rfl)); intro gb580 hg w103 hbox hb; have n0_ := zA (yE (g := gb546) (o := .cells #[.int .i64 t100, .int .i64 t541, .string t542] 27 (0, 0)) (by (with_reducible repeat (first | refine zL ?_ _ | refine zN ?_ | refine zM ?_ _)); exact BK546.out) hb); have n1_ := zA (yE (g := gb547) (o := .cells #[.int .i64 t543, .int .i64 t544, .string t545] 27 (0, 0)) (by (with_reducible repeat (first | refine zL ?_ _ | refine zN ?_ | refine zM ?_ _)); exact BK547.out) hb); have n2_ := zA (yE (g := gb574) (o := .cells #[.int .i64 t569, .int .i64 t570, .string t571] 27 (0, 0)) (by (with_reducible repeat (first | refine zL ?_ _ | refine zN ?_ | refine zM ?_ _)); exact BK574.out) hb); have n3_ := zA (zAD (by repeat (first | (with_reducible first | exact HB.out | apply zH | apply zF | apply zG | refine zI ?_ GE546.out | refine zI ?_ GE547.out | refine zI ?_ GE574.out) | exact HB.out)) hb); have n4_ := zA (hbox); have n5_ := zA ((by rw [hg]; exact (zAE (by repeat (first | (with_reducible first | exact HB.out | apply zH | apply zF | apply zG | refine zI ?_ GE546.out | refine zI ?_ GE547.out | refine zI ?_ GE574.out) | exact HB.out))) : w.heap.size ≤ gb580)); have n6_ := zA ((by rw [hg]; exact (zAE (by repeat (first | (with_reducible first | exact HB.out | apply zH | apply zF | apply zG | refine zI ?_ GE546.out | refine zI ?_ GE547.out | refine zI ?_ GE574.out) | exact HB.out))) : w.heap.size ≤ gb580)); have n7_ := zA ((by rw [hg]; exact zK (blk_lt (g := gb546) (o := .cells #[.int .i64 t100, .int .i64 t541, .string t542] 27 (0, 0)) (by (with_reducible repeat (first | refine zL ?_ _ | refine zN ?_ | refine zM ?_ _)); exact BK546.out)) : gb546 ≠ gb580)); have n8_ := zA ((by rw [hg]; exact Nat.ne_of_gt (blk_lt (g := gb546) (o := .cells #[.int .i64 t100, .int .i64 t541, .string t542] 27 (0, 0)) (by (with_reducible repeat (first | refine zL ?_ _ | refine zN ?_ | refine zM ?_ _)); exact BK546.out)) : gb580 ≠ gb546)); have n9_ := zA ((by rw [hg]; exact zK (blk_lt (g := gb547) (o := .cells #[.int .i64 t543, .int .i64 t544, .string t545] 27 (0, 0)) (by (with_reducible repeat (first | refine zL ?_ _ | refine zN ?_ | refine zM ?_ _)); exact BK547.out)) : gb547 ≠ gb580)); have n10_ := zA ((by rw [hg]; exact Nat.ne_of_gt (blk_lt (g := gb547) (o := .cells #[.int .i64 t543, .int .i64 t544, .string t545] 27 (0, 0)) (by (with_reducible repeat (first | refine zL ?_ _ | refine zN ?_ | refine zM ?_ _)); exact BK547.out)) : gb580 ≠ gb547)); have n11_ := zA ((by rw [hg]; exact zK (blk_lt (g := gb574) (o := .cells #[.int .i64 t569, .int .i64 t570, .string t571] 27 (0, 0)) (by (with_reducible repeat (first | refine zL ?_ _ | refine zN ?_ | refine zM ?_ _)); exact BK574.out)) : gb574 ≠ gb580)); have n12_ := zA ((by rw [hg]; exact Nat.ne_of_gt (blk_lt (g := gb574) (o := .cells #[.int .i64 t569, .int .i64 t570, .string t571] 27 (0, 0)) (by (with_reducible repeat (first | refine zL ?_ _ | refine zN ?_ | refine zM ?_ _)); exact BK574.out)) : gb580 ≠ gb574)); clear BK546; clear BK547; clear BK574; clear HB; have BK546 := n0_; have BK547 := n1_; have BK574 := n2_; have HB := n3_; have BK580 := n4_; have GW580 := n5_; have GE580 := n6_; have NB546_580 := n7_; have NB580_546 := n8_; have NB547_580 := n9_; have NB580_547 := n10_; have NB574_580 := n11_; have NB580_574 := n12_; clear n0_ n1_ n2_ n3_ n4_ n5_ n6_ n7_ n8_ n9_ n10_ n11_ n12_; clear hb hbox hg; have hnb104 := NB580_546.out; have hnc104 := NB546_580.out; have hnb105 := NB580_547.out; have hnc105 := NB547_580.out; have hnb106 := NB580_574.out; have hnc106 := NB574_580.out; have hcz107_0 : w103.cell? ⟨gb580, 0, none⟩ = some (.int .i64 0) := (zP BK580.out 0).trans rfl; have hcz107_1 : w103.cell? ⟨gb580, 1, none⟩ = some (.int .i64 0) := (zP BK580.out 1).trans rfl; have hcz107_2 : w103.cell? ⟨gb580, 2, none⟩ = some (.string (⟨#[]⟩ : ByteArray)) := (zP BK580.out 2).trans rfl; have hfz107_0 := zO BK580.out 0; have hfz107_1 := zO BK580.out 1; have hfz107_2 := zO BK580.out 2) | ((with_reducible refine yB (f := 33) rfl ?_); refine goesL_ (some 179) rfl rfl Tryd.func33 (by kernel_rfl) rfl #[.slice A1 l1.length c1] rfl (by (try simp only [zAA, zAB, zAC]); first | done | rfl | (simp only [zZ, zY]; rfl)) ?_; (with_reducible refine (spec_DrawValueBytes.calls _ _ l1 t581 t582 t583 _ ?side1 ?side2 A92.out).mono ?_); (case side1 => exact Kd.C_below HR1.out (by repeat (first | (with_reducible first | exact HB.out | apply zH | apply zF | apply zG | refine zI ?_ GE546.out | refine zI ?_ GE547.out | refine zI ?_ GE574.out | refine zI ?_ GE580.out) | exact HB.out))); (case side2 => exact HC1.out); rintro e w108 ⟨rfl, hb⟩; refine ⟨_, rfl, ?_⟩; have n0_ := zA (yE (g := gb546) (o := .cells #[.int .i64 t100, .int .i64 t541, .string t542] 27 (0, 0)) (by (with_reducible repeat (first | refine zL ?_ _ | refine zN ?_ | refine zM ?_ _)); refine blk_far ?_ NB546_580.out _; (with_reducible repeat (first | refine zL ?_ _ | refine zN ?_ | refine zM ?_ _)); refine blk_far ?_ NB546_580.out _; (with_reducible repeat (first | refine zL ?_ _ | refine zN ?_ | refine zM ?_ _)); refine blk_far ?_ NB546_580.out _; (with_reducible repeat (first | refine zL ?_ _ | refine zN ?_ | refine zM ?_ _)); exact BK546.out) hb); have n1_ := zA (yE (g := gb547) (o := .cells #[.int .i64 t543, .int .i64 t544, .string t545] 27 (0, 0)) (by (with_reducible repeat (first | refine zL ?_ _ | refine zN ?_ | refine zM ?_ _)); refine blk_far ?_ NB547_580.out _; (with_reducible repeat (first | refine zL ?_ _ | refine zN ?_ | refine zM ?_ _)); refine blk_far ?_ NB547_580.out _; (with_reducible repeat (first | refine zL ?_ _ | refine zN ?_ | refine zM ?_ _)); refine blk_far ?_ NB547_580.out _; (with_reducible repeat (first | refine zL ?_ _ | refine zN ?_ | refine zM ?_ _)); exact BK547.out) hb); have n2_ := zA (yE (g := gb574) (o := .cells #[.int .i64 t569, .int .i64 t570, .string t571] 27 (0, 0)) (by (with_reducible repeat (first | refine zL ?_ _ | refine zN ?_ | refine zM ?_ _)); refine blk_far ?_ NB574_580.out _; (with_reducible repeat (first | refine zL ?_ _ | refine zN ?_ | refine zM ?_ _)); refine blk_far ?_ NB574_580.out _; (with_reducible repeat (first | refine zL ?_ _ | refine zN ?_ | refine zM ?_ _)); refine blk_far ?_ NB574_580.out _; (with_reducible repeat (first | refine zL ?_ _ | refine zN ?_ | refine zM ?_ _)); exact BK574.out) hb); have n3_ := zA (yE (g := gb580) (o := .cells #[.int .i64 t575, .int .i64 t576, .string t577] 27 (0, 0)) (by (with_reducible repeat (first | refine zL ?_ _ | refine zN ?_ | refine zM ?_ _)); refine blk_put (cs := #[.int .i64 t575, .int .i64 t576, .string (⟨#[]⟩ : ByteArray)]) ?_ 2 _ rfl; (with_reducible repeat (first | refine zL ?_ _ | refine zN ?_ | refine zM ?_ _)); refine blk_put (cs := #[.int .i64 t575, .int .i64 0, .string (⟨#[]⟩ : ByteArray)]) ?_ 1 _ rfl; (with_reducible repeat (first | refine zL ?_ _ | refine zN ?_ | refine zM ?_ _)); refine blk_put (cs := #[.int .i64 0, .int .i64 0, .string (⟨#[]⟩ : ByteArray)]) ?_ 0 _ rfl; (with_reducible repeat (first | refine zL ?_ _ | refine zN ?_ | refine zM ?_ _)); exact BK580.out) hb); have n4_ := zA (zAD (by repeat (first | (with_reducible first | exact HB.out | apply zH | apply zF | apply zG | refine zI ?_ GE546.out | refine zI ?_ GE547.out | refine zI ?_ GE574.out | refine zI ?_ GE580.out) | exact HB.out)) hb); clear BK546; clear BK547; clear BK574; clear BK580; clear HB; have BK546 := n0_; have BK547 := n1_; have BK574 := n2_; have BK580 := n3_; have HB := n4_; clear n0_ n1_ n2_ n3_ n4_; (try clear hb)) | ((with_reducible refine gate_dst (N := 28) rfl ?_); (try (refine gate_guard (by rfl) ?_; dsimp only)); refine box_event ?hg (N := 28) ?hd (cs := #[.int .i64 0, .int .i64 0, .string (⟨#[]⟩ : ByteArray)]) (t := 27) ?hr ?_; (case hd => rfl); (case hg => rfl); (case hr => first | (go_simp; done) | (go_simp; rfl)); intro gb584 hg w109 hbox hb; have n0_ := zA (yE (g := gb546) (o := .cells #[.int .i64 t100, .int .i64 t541, .string t542] 27 (0, 0)) (by (with_reducible repeat (first | refine zL ?_ _ | refine zN ?_ | refine zM ?_ _)); exact BK546.out) hb); have n1_ := zA (yE (g := gb547) (o := .cells #[.int .i64 t543, .int .i64 t544, .string t545] 27 (0, 0)) (by (with_reducible repeat (first | refine zL ?_ _ | refine zN ?_ | refine zM ?_ _)); exact BK547.out) hb); have n2_ := zA (yE (g := gb574) (o := .cells #[.int .i64 t569, .int .i64 t570, .string t571] 27 (0, 0)) (by (with_reducible repeat (first | refine zL ?_ _ | refine zN ?_ | refine zM ?_ _)); exact BK574.out) hb); have n3_ := zA (yE (g := gb580) (o := .cells #[.int .i64 t575, .int .i64 t576, .string t577] 27 (0, 0)) (by (with_reducible repeat (first | refine zL ?_ _ | refine zN ?_ | refine zM ?_ _)); exact BK580.out) hb); have n4_ := zA (zAD (by repeat (first | (with_reducible first | exact HB.out | apply zH | apply zF | apply zG | refine zI ?_ GE546.out | refine zI ?_ GE547.out | refine zI ?_ GE574.out | refine zI ?_ GE580.out) | exact HB.out)) hb); have n5_ := zA (hbox); have n6_ := zA ((by rw [hg]; exact (zAE (by repeat (first | (with_reducible first | exact HB.out | apply zH | apply zF | apply zG | refine zI ?_ GE546.out | refine zI ?_ GE547.out | refine zI ?_ GE574.out | refine zI ?_ GE580.out) | exact HB.out))) : w.heap.size ≤ gb584)); have n7_ := zA ((by rw [hg]; exact (zAE (by repeat (first | (with_reducible first | exact HB.out | apply zH | apply zF | apply zG | refine zI ?_ GE546.out | refine zI ?_ GE547.out | refine zI ?_ GE574.out | refine zI ?_ GE580.out) | exact HB.out))) : w.heap.size ≤ gb584)); have n8_ := zA ((by rw [hg]; exact zK (blk_lt (g := gb546) (o := .cells #[.int .i64 t100, .int .i64 t541, .string t542] 27 (0, 0)) (by (with_reducible repeat (first | refine zL ?_ _ | refine zN ?_ | refine zM ?_ _)); exact BK546.out)) : gb546 ≠ gb584)); have n9_ := zA ((by rw [hg]; exact Nat.ne_of_gt (blk_lt (g := gb546) (o := .cells #[.int .i64 t100, .int .i64 t541, .string t542] 27 (0, 0)) (by (with_reducible repeat (first | refine zL ?_ _ | refine zN ?_ | refine zM ?_ _)); exact BK546.out)) : gb584 ≠ gb546)); have n10_ := zA ((by rw [hg]; exact zK (blk_lt (g := gb547) (o := .cells #[.int .i64 t543, .int .i64 t544, .string t545] 27 (0, 0)) (by (with_reducible repeat (first | refine zL ?_ _ | refine zN ?_ | refine zM ?_ _)); exact BK547.out)) : gb547 ≠ gb584)); have n11_ := zA ((by rw [hg]; exact Nat.ne_of_gt (blk_lt (g := gb547) (o := .cells #[.int .i64 t543, .int .i64 t544, .string t545] 27 (0, 0)) (by (with_reducible repeat (first | refine zL ?_ _ | refine zN ?_ | refine zM ?_ _)); exact BK547.out)) : gb584 ≠ gb547)); have n12_ := zA ((by rw [hg]; exact zK (blk_lt (g := gb574) (o := .cells #[.int .i64 t569, .int .i64 t570, .string t571] 27 (0, 0)) (by (with_reducible repeat (first | refine zL ?_ _ | refine zN ?_ | refine zM ?_ _)); exact BK574.out)) : gb574 ≠ gb584)); have n13_ := zA ((by rw [hg]; exact Nat.ne_of_gt (blk_lt (g := gb574) (o := .cells #[.int .i64 t569, .int .i64 t570, .string t571] 27 (0, 0)) (by (with_reducible repeat (first | refine zL ?_ _ | refine zN ?_ | refine zM ?_ _)); exact BK574.out)) : gb584 ≠ gb574)); have n14_ := zA ((by rw [hg]; exact zK (blk_lt (g := gb580) (o := .cells #[.int .i64 t575, .int .i64 t576, .string t577] 27 (0, 0)) (by (with_reducible repeat (first | refine zL ?_ _ | refine zN ?_ | refine zM ?_ _)); exact BK580.out)) : gb580 ≠ gb584)); have n15_ := zA ((by rw [hg]; exact Nat.ne_of_gt (blk_lt (g := gb580) (o := .cells #[.int .i64 t575, .int .i64 t576, .string t577] 27 (0, 0)) (by (with_reducible repeat (first | refine zL ?_ _ | refine zN ?_ | refine zM ?_ _)); exact BK580.out)) : gb584 ≠ gb580)); clear BK546; clear BK547; clear BK574; clear BK580; clear HB; have BK546 := n0_; have BK547 := n1_; have BK574 := n2_; have BK580 := n3_; have HB := n4_; have BK584 := n5_; have GW584 := n6_; have GE584 := n7_; have NB546_584 := n8_; have NB584_546 := n9_; have NB547_584 := n10_; have NB584_547 := n11_; have NB574_584 := n12_; have NB584_574 := n13_; have NB580_584 := n14_; have NB584_580 := n15_; clear n0_ n1_ n2_ n3_ n4_ n5_ n6_ n7_ n8_ n9_ n10_ n11_ n12_ n13_ n14_ n15_; clear hb hbox hg; have hnb110 := NB584_546.out; have hnc110 := NB546_584.out; have hnb111 := NB584_547.out; have hnc111 := NB547_584.out; have hnb112 := NB584_574.out; have hnc112 := NB574_584.out; have hnb113 := NB584_580.out; have hnc113 := NB580_584.out; have hcz114_0 : w109.cell? ⟨gb584, 0, none⟩ = some (.int .i64 0) := (zP BK584.out 0).trans rfl; have hcz114_1 : w109.cell? ⟨gb584, 1, none⟩ = some (.int .i64 0) := (zP BK584.out 1).trans rfl; have hcz114_2 : w109.cell? ⟨gb584, 2, none⟩ = some (.string (⟨#[]⟩ : ByteArray)) := (zP BK584.out 2).trans rfl; have hfz114_0 := zO BK584.out 0; have hfz114_1 := zO BK584.out 1; have hfz114_2 := zO BK584.out 2) | ((with_reducible refine yB (f := 11) rfl ?_); refine goesL_ (some 182) rfl rfl Tryd.func11 (by kernel_rfl) rfl #[.agg #[.int .i64 t581, .int .i64 t582, .string t583]] rfl (by (try simp only [zAA, zAB, zAC]); first | done | rfl) ?_; (with_reducible refine (impl_ValueBytes.calls t581 t582 t583 t585 t586 _ A93.out).mono ?_); rintro e w115 ⟨rfl, hb⟩; refine ⟨_, rfl, ?_⟩; have n0_ := zA (yE (g := gb546) (o := .cells #[.int .i64 t100, .int .i64 t541, .string t542] 27 (0, 0)) (by (with_reducible repeat (first | refine zL ?_ _ | refine zN ?_ | refine zM ?_ _)); refine blk_far ?_ NB546_584.out _; (with_reducible repeat (first | refine zL ?_ _ | refine zN ?_ | refine zM ?_ _)); refine blk_far ?_ NB546_584.out _; (with_reducible repeat (first | refine zL ?_ _ | refine zN ?_ | refine zM ?_ _)); refine blk_far ?_ NB546_584.out _; (with_reducible repeat (first | refine zL ?_ _ | refine zN ?_ | refine zM ?_ _)); exact BK546.out) hb); have n1_ := zA (yE (g := gb547) (o := .cells #[.int .i64 t543, .int .i64 t544, .string t545] 27 (0, 0)) (by (with_reducible repeat (first | refine zL ?_ _ | refine zN ?_ | refine zM ?_ _)); refine blk_far ?_ NB547_584.out _; (with_reducible repeat (first | refine zL ?_ _ | refine zN ?_ | refine zM ?_ _)); refine blk_far ?_ NB547_584.out _; (with_reducible repeat (first | refine zL ?_ _ | refine zN ?_ | refine zM ?_ _)); refine blk_far ?_ NB547_584.out _; (with_reducible repeat (first | refine zL ?_ _ | refine zN ?_ | refine zM ?_ _)); exact BK547.out) hb); have n2_ := zA (yE (g := gb574) (o := .cells #[.int .i64 t569, .int .i64 t570, .string t571] 27 (0, 0)) (by (with_reducible repeat (first | refine zL ?_ _ | refine zN ?_ | refine zM ?_ _)); refine blk_far ?_ NB574_584.out _; (with_reducible repeat (first | refine zL ?_ _ | refine zN ?_ | refine zM ?_ _)); refine blk_far ?_ NB574_584.out _; (with_reducible repeat (first | refine zL ?_ _ | refine zN ?_ | refine zM ?_ _)); refine blk_far ?_ NB574_584.out _; (with_reducible repeat (first | refine zL ?_ _ | refine zN ?_ | refine zM ?_ _)); exact BK574.out) hb); have n3_ := zA (yE (g := gb580) (o := .cells #[.int .i64 t575, .int .i64 t576, .string t577] 27 (0, 0)) (by (with_reducible repeat (first | refine zL ?_ _ | refine zN ?_ | refine zM ?_ _)); refine blk_far ?_ NB580_584.out _; (with_reducible repeat (first | refine zL ?_ _ | refine zN ?_ | refine zM ?_ _)); refine blk_far ?_ NB580_584.out _; (with_reducible repeat (first | refine zL ?_ _ | refine zN ?_ | refine zM ?_ _)); refine blk_far ?_ NB580_584.out _; (with_reducible repeat (first | refine zL ?_ _ | refine zN ?_ | refine zM ?_ _)); exact BK580.out) hb); have n4_ := zA (yE (g := gb584) (o := .cells #[.int .i64 t581, .int .i64 t582, .string t583] 27 (0, 0)) (by (with_reducible repeat (first | refine zL ?_ _ | refine zN ?_ | refine zM ?_ _)); refine blk_put (cs := #[.int .i64 t581, .int .i64 t582, .string (⟨#[]⟩ : ByteArray)]) ?_ 2 _ rfl; (with_reducible repeat (first | refine zL ?_ _ | refine zN ?_ | refine zM ?_ _)); refine blk_put (cs := #[.int .i64 t581, .int .i64 0, .string (⟨#[]⟩ : ByteArray)]) ?_ 1 _ rfl; (with_reducible repeat (first | refine zL ?_ _ | refine zN ?_ | refine zM ?_ _)); refine blk_put (cs := #[.int .i64 0, .int .i64 0, .string (⟨#[]⟩ : ByteArray)]) ?_ 0 _ rfl; (with_reducible repeat (first | refine zL ?_ _ | refine zN ?_ | refine zM ?_ _)); exact BK584.out) hb); have n5_ := zA (zAD (by repeat (first | (with_reducible first | exact HB.out | apply zH | apply zF | apply zG | refine zI ?_ GE546.out | refine zI ?_ GE547.out | refine zI ?_ GE574.out | refine zI ?_ GE580.out | refine zI ?_ GE584.out) | exact HB.out)) hb); clear BK546; clear BK547; clear BK574; clear BK580; clear BK584; clear HB; have BK546 := n0_; have BK547 := n1_; have BK574 := n2_; have BK580 := n3_; have BK584 := n4_; have HB := n5_; clear n0_ n1_ n2_ n3_ n4_ n5_; (try clear hb); have hcz116_0 : w115.cell? ⟨gb584, 0, none⟩ = some (.int .i64 t581) := (zP BK584.out 0).trans rfl; have hcz116_1 : w115.cell? ⟨gb584, 1, none⟩ = some (.int .i64 t582) := (zP BK584.out 1).trans rfl; have hcz116_2 : w115.cell? ⟨gb584, 2, none⟩ = some (.string t583) := (zP BK584.out 2).trans rfl; have hfz116_0 := zO BK584.out 0; have hfz116_1 := zO BK584.out 1; have hfz116_2 := zO BK584.out 2) | ((with_reducible refine yB (f := 9) rfl ?_); refine goesL_ (some 187) rfl rfl Tryd.func9 (by kernel_rfl) rfl #[.agg #[.int .i64 t581, .int .i64 t582, .string t583]] rfl (by (try simp only [zAA, zAB, zAC]); first | done | rfl) ?_; (with_reducible refine (spec_ValueBytes.calls kj27 t581 t582 t583 t587 t588 _ A94.out).mono ?_); rintro e w117 ⟨rfl, hb⟩; refine ⟨_, rfl, ?_⟩; have n0_ := zA (yE (g := gb546) (o := .cells #[.int .i64 t100, .int .i64 t541, .string t542] 27 (0, 0)) (by (with_reducible repeat (first | refine zL ?_ _ | refine zN ?_ | refine zM ?_ _)); exact BK546.out) hb); have n1_ := zA (yE (g := gb547) (o := .cells #[.int .i64 t543, .int .i64 t544, .string t545] 27 (0, 0)) (by (with_reducible repeat (first | refine zL ?_ _ | refine zN ?_ | refine zM ?_ _)); exact BK547.out) hb); have n2_ := zA (yE (g := gb574) (o := .cells #[.int .i64 t569, .int .i64 t570, .string t571] 27 (0, 0)) (by (with_reducible repeat (first | refine zL ?_ _ | refine zN ?_ | refine zM ?_ _)); exact BK574.out) hb); have n3_ := zA (yE (g := gb580) (o := .cells #[.int .i64 t575, .int .i64 t576, .string t577] 27 (0, 0)) (by (with_reducible repeat (first | refine zL ?_ _ | refine zN ?_ | refine zM ?_ _)); exact BK580.out) hb); have n4_ := zA (yE (g := gb584) (o := .cells #[.int .i64 t581, .int .i64 t582, .string t583] 27 (0, 0)) (by (with_reducible repeat (first | refine zL ?_ _ | refine zN ?_ | refine zM ?_ _)); exact BK584.out) hb); have n5_ := zA (zAD (by repeat (first | (with_reducible first | exact HB.out | apply zH | apply zF | apply zG | refine zI ?_ GE546.out | refine zI ?_ GE547.out | refine zI ?_ GE574.out | refine zI ?_ GE580.out | refine zI ?_ GE584.out) | exact HB.out)) hb); clear BK546; clear BK547; clear BK574; clear BK580; clear BK584; clear HB; have BK546 := n0_; have BK547 := n1_; have BK574 := n2_; have BK580 := n3_; have BK584 := n4_; have HB := n5_; clear n0_ n1_ n2_ n3_ n4_ n5_; (try clear hb)))
       (try simp only [Act.put, zC, zD, zE]); go_cut [212] (fun v212 wc => ∃ (kq : Nat) (x212_94 : Bool), v212 = .bool x212_94 ∧ Aside0 (laws_FnOrder.j4 kq t567 t568 t572 t573 x212_94 t569 t570 t571 = some r) ∧ Aside0 (kq ≤ kj27) ∧ Aside0 (wc.heap[gb546]? = some (.cells #[.int .i64 t100, .int .i64 t541, .string t542] 27 (0, 0))) ∧ Aside0 (wc.heap[gb547]? = some (.cells #[.int .i64 t543, .int .i64 t544, .string t545] 27 (0, 0))) ∧ Aside0 (wc.heap[gb574]? = some (.cells #[.int .i64 t569, .int .i64 t570, .string t571] 27 (0, 0))) ∧ Aside0 (wc.heap[gb580]? = some (.cells #[.int .i64 t575, .int .i64 t576, .string t577] 27 (0, 0))) ∧ Aside0 (wc.heap[gb584]? = some (.cells #[.int .i64 t581, .int .i64 t582, .string t583] 27 (0, 0))) ∧ Aside0 (Below w.heap.size w wc))
       case first =>
        have H := HC95.out; clear HC95
        by_cases c118 : (t573 != t579) = true
        ·rw [if_pos c118] at H
         have c118b0 : (t573 != t579) = true := c118; (try (have c118b1 : decide (t573 = t579) = false := by simpa using c118)); (try (have c118b2 : (t573 == t579) = false := by simpa using c118)); (try (have c118b3 : ¬ (t573 = t579) := by simpa using c118)); clear c118; (first | rw [c118b0] | (simp only [i64_w, i32_w]; rw [c118b0]) | skip)
         as_aux_lemma =>
          have H' := zA H; clear H; go_wp2; go_meet
          case rel => exact ⟨_, (true), (by first | rfl | (simp; done) | (simp [*]; done) | (simp [bne]; done)), H', ⟨by have := HJ6.out; have := HJ27.out; first | omega | exact Nat.le_refl _⟩, ⟨by (with_reducible repeat (first | refine zL ?_ _ | refine zN ?_ | refine zM ?_ _)); exact BK546.out⟩, ⟨by (with_reducible repeat (first | refine zL ?_ _ | refine zN ?_ | refine zM ?_ _)); exact BK547.out⟩, ⟨by (with_reducible repeat (first | refine zL ?_ _ | refine zN ?_ | refine zM ?_ _)); exact BK574.out⟩, ⟨by (with_reducible repeat (first | refine zL ?_ _ | refine zN ?_ | refine zM ?_ _)); exact BK580.out⟩, ⟨by (with_reducible repeat (first | refine zL ?_ _ | refine zN ?_ | refine zM ?_ _)); exact BK584.out⟩, ⟨by repeat (first | (with_reducible first | exact HB.out | apply zH | apply zF | apply zG | refine zI ?_ GE546.out | refine zI ?_ GE547.out | refine zI ?_ GE574.out | refine zI ?_ GE580.out | refine zI ?_ GE584.out) | exact HB.out)⟩⟩
        ·rw [if_neg c118] at H
         have c118b0 : (t573 != t579) = false := by simpa using c118
         (try (have c118b1 : decide (t573 = t579) = true := by simpa using c118)); (try (have c118b2 : (t573 == t579) = true := by simpa using c118)); clear c118; (first | rw [c118b0] | (simp only [i64_w, i32_w]; rw [c118b0]) | skip)
         by_cases c119 : (!(t569 == t575) || (!(t570 == t576) || (!(t571.toList == t577.toList)))) = true
         ·rw [if_pos c119] at H
          have c119b0 : (!(t569 == t575) || (!(t570 == t576) || (!(t571.toList == t577.toList)))) = true := c119; clear c119
          as_aux_lemma =>
           have H' := zA H; clear H; have hnb120 := NB574_546.out; have hnc120 := NB546_574.out; have hnb121 := NB574_547.out; have hnc121 := NB547_574.out; have hnb122 := NB574_580.out; have hnc122 := NB580_574.out; have hnb123 := NB574_584.out; have hnc123 := NB584_574.out; have hcz124_0 : w117.cell? ⟨gb574, 0, none⟩ = some (.int .i64 t569) := (zP BK574.out 0).trans rfl; have hcz124_1 : w117.cell? ⟨gb574, 1, none⟩ = some (.int .i64 t570) := (zP BK574.out 1).trans rfl; have hcz124_2 : w117.cell? ⟨gb574, 2, none⟩ = some (.string t571) := (zP BK574.out 2).trans rfl; have hfz124_0 := zO BK574.out 0; have hfz124_1 := zO BK574.out 1; have hfz124_2 := zO BK574.out 2; have hnb125 := NB580_546.out; have hnc125 := NB546_580.out; have hnb126 := NB580_547.out; have hnc126 := NB547_580.out; have hnb127 := NB580_584.out; have hnc127 := NB584_580.out; have hcz128_0 : w117.cell? ⟨gb580, 0, none⟩ = some (.int .i64 t575) := (zP BK580.out 0).trans rfl; have hcz128_1 : w117.cell? ⟨gb580, 1, none⟩ = some (.int .i64 t576) := (zP BK580.out 1).trans rfl; have hcz128_2 : w117.cell? ⟨gb580, 2, none⟩ = some (.string t577) := (zP BK580.out 2).trans rfl; have hfz128_0 := zO BK580.out 0; have hfz128_1 := zO BK580.out 1; have hfz128_2 := zO BK580.out 2; go_wp2; go_meet
           case rel => exact ⟨_, (true), (by first | rfl | (simp; done) | (simp [*]; done) | (simp [bne]; done)), H', ⟨by have := HJ6.out; have := HJ27.out; first | omega | exact Nat.le_refl _⟩, ⟨by (with_reducible repeat (first | refine zL ?_ _ | refine zN ?_ | refine zM ?_ _)); exact BK546.out⟩, ⟨by (with_reducible repeat (first | refine zL ?_ _ | refine zN ?_ | refine zM ?_ _)); exact BK547.out⟩, ⟨by (with_reducible repeat (first | refine zL ?_ _ | refine zN ?_ | refine zM ?_ _)); exact BK574.out⟩, ⟨by (with_reducible repeat (first | refine zL ?_ _ | refine zN ?_ | refine zM ?_ _)); exact BK580.out⟩, ⟨by (with_reducible repeat (first | refine zL ?_ _ | refine zN ?_ | refine zM ?_ _)); exact BK584.out⟩, ⟨by repeat (first | (with_reducible first | exact HB.out | apply zH | apply zF | apply zG | refine zI ?_ GE546.out | refine zI ?_ GE547.out | refine zI ?_ GE574.out | refine zI ?_ GE580.out | refine zI ?_ GE584.out) | exact HB.out)⟩⟩
         ·rw [if_neg c119] at H
          have c119b0 : (!(t569 == t575) || (!(t570 == t576) || (!(t571.toList == t577.toList)))) = false := by simpa using c119
          clear c119
          by_cases c129 : t572 = t578
          ·rw [if_pos c129] at H
           have c129b0 : (t572 == t578) = true := beq_iff_eq.mpr c129; have c129b1 : (t572 != t578) = false := bne_eq_false_iff_eq.mpr c129; clear c129
           by_cases c130 : (t586 != t588) = true
           ·rw [if_pos c130] at H
            have c130b0 : (t586 != t588) = true := c130; (try (have c130b1 : decide (t586 = t588) = false := by simpa using c130)); (try (have c130b2 : (t586 == t588) = false := by simpa using c130)); (try (have c130b3 : ¬ (t586 = t588) := by simpa using c130)); clear c130
            as_aux_lemma =>
             have H' := zA H; clear H; have hnb131 := NB574_546.out; have hnc131 := NB546_574.out; have hnb132 := NB574_547.out; have hnc132 := NB547_574.out; have hnb133 := NB574_580.out; have hnc133 := NB580_574.out; have hnb134 := NB574_584.out; have hnc134 := NB584_574.out; have hcz135_0 : w117.cell? ⟨gb574, 0, none⟩ = some (.int .i64 t569) := (zP BK574.out 0).trans rfl; have hcz135_1 : w117.cell? ⟨gb574, 1, none⟩ = some (.int .i64 t570) := (zP BK574.out 1).trans rfl; have hcz135_2 : w117.cell? ⟨gb574, 2, none⟩ = some (.string t571) := (zP BK574.out 2).trans rfl; have hfz135_0 := zO BK574.out 0; have hfz135_1 := zO BK574.out 1; have hfz135_2 := zO BK574.out 2; have hnb136 := NB580_546.out; have hnc136 := NB546_580.out; have hnb137 := NB580_547.out; have hnc137 := NB547_580.out; have hnb138 := NB580_584.out; have hnc138 := NB584_580.out; have hcz139_0 : w117.cell? ⟨gb580, 0, none⟩ = some (.int .i64 t575) := (zP BK580.out 0).trans rfl; have hcz139_1 : w117.cell? ⟨gb580, 1, none⟩ = some (.int .i64 t576) := (zP BK580.out 1).trans rfl; have hcz139_2 : w117.cell? ⟨gb580, 2, none⟩ = some (.string t577) := (zP BK580.out 2).trans rfl; have hfz139_0 := zO BK580.out 0; have hfz139_1 := zO BK580.out 1; have hfz139_2 := zO BK580.out 2; go_wp2; go_meet
             case rel => exact ⟨_, (true), (by first | rfl | (simp; done) | (simp [*]; done) | (simp [bne]; done)), H', ⟨by have := HJ6.out; have := HJ27.out; first | omega | exact Nat.le_refl _⟩, ⟨by (with_reducible repeat (first | refine zL ?_ _ | refine zN ?_ | refine zM ?_ _)); exact BK546.out⟩, ⟨by (with_reducible repeat (first | refine zL ?_ _ | refine zN ?_ | refine zM ?_ _)); exact BK547.out⟩, ⟨by (with_reducible repeat (first | refine zL ?_ _ | refine zN ?_ | refine zM ?_ _)); exact BK574.out⟩, ⟨by (with_reducible repeat (first | refine zL ?_ _ | refine zN ?_ | refine zM ?_ _)); exact BK580.out⟩, ⟨by (with_reducible repeat (first | refine zL ?_ _ | refine zN ?_ | refine zM ?_ _)); exact BK584.out⟩, ⟨by repeat (first | (with_reducible first | exact HB.out | apply zH | apply zF | apply zG | refine zI ?_ GE546.out | refine zI ?_ GE547.out | refine zI ?_ GE574.out | refine zI ?_ GE580.out | refine zI ?_ GE584.out) | exact HB.out)⟩⟩
           ·rw [if_neg c130] at H
            have c130b0 : (t586 != t588) = false := by simpa using c130
            (try (have c130b1 : decide (t586 = t588) = true := by simpa using c130)); (try (have c130b2 : (t586 == t588) = true := by simpa using c130)); clear c130
            as_aux_lemma =>
             have H' := zA H; clear H; have hnb140 := NB574_546.out; have hnc140 := NB546_574.out; have hnb141 := NB574_547.out; have hnc141 := NB547_574.out; have hnb142 := NB574_580.out; have hnc142 := NB580_574.out; have hnb143 := NB574_584.out; have hnc143 := NB584_574.out; have hcz144_0 : w117.cell? ⟨gb574, 0, none⟩ = some (.int .i64 t569) := (zP BK574.out 0).trans rfl; have hcz144_1 : w117.cell? ⟨gb574, 1, none⟩ = some (.int .i64 t570) := (zP BK574.out 1).trans rfl; have hcz144_2 : w117.cell? ⟨gb574, 2, none⟩ = some (.string t571) := (zP BK574.out 2).trans rfl; have hfz144_0 := zO BK574.out 0; have hfz144_1 := zO BK574.out 1; have hfz144_2 := zO BK574.out 2; have hnb145 := NB580_546.out; have hnc145 := NB546_580.out; have hnb146 := NB580_547.out; have hnc146 := NB547_580.out; have hnb147 := NB580_584.out; have hnc147 := NB584_580.out; have hcz148_0 : w117.cell? ⟨gb580, 0, none⟩ = some (.int .i64 t575) := (zP BK580.out 0).trans rfl; have hcz148_1 : w117.cell? ⟨gb580, 1, none⟩ = some (.int .i64 t576) := (zP BK580.out 1).trans rfl; have hcz148_2 : w117.cell? ⟨gb580, 2, none⟩ = some (.string t577) := (zP BK580.out 2).trans rfl; have hfz148_0 := zO BK580.out 0; have hfz148_1 := zO BK580.out 1; have hfz148_2 := zO BK580.out 2; go_wp2; go_meet
             case rel => exact ⟨_, ((t585.toList != t587.toList)), (by first | rfl | (simp; done) | (simp [*]; done) | (simp [bne]; done)), H', ⟨by have := HJ6.out; have := HJ27.out; first | omega | exact Nat.le_refl _⟩, ⟨by (with_reducible repeat (first | refine zL ?_ _ | refine zN ?_ | refine zM ?_ _)); exact BK546.out⟩, ⟨by (with_reducible repeat (first | refine zL ?_ _ | refine zN ?_ | refine zM ?_ _)); exact BK547.out⟩, ⟨by (with_reducible repeat (first | refine zL ?_ _ | refine zN ?_ | refine zM ?_ _)); exact BK574.out⟩, ⟨by (with_reducible repeat (first | refine zL ?_ _ | refine zN ?_ | refine zM ?_ _)); exact BK580.out⟩, ⟨by (with_reducible repeat (first | refine zL ?_ _ | refine zN ?_ | refine zM ?_ _)); exact BK584.out⟩, ⟨by repeat (first | (with_reducible first | exact HB.out | apply zH | apply zF | apply zG | refine zI ?_ GE546.out | refine zI ?_ GE547.out | refine zI ?_ GE574.out | refine zI ?_ GE580.out | refine zI ?_ GE584.out) | exact HB.out)⟩⟩
          ·rw [if_neg c129] at H
           have c129b0 : (t572 == t578) = false := beq_eq_false_iff_ne.mpr c129; have c129b1 : (t572 != t578) = true := bne_iff_ne.mpr c129
           as_aux_lemma =>
            have H' := zA H; clear H; have hnb149 := NB574_546.out; have hnc149 := NB546_574.out; have hnb150 := NB574_547.out; have hnc150 := NB547_574.out; have hnb151 := NB574_580.out; have hnc151 := NB580_574.out; have hnb152 := NB574_584.out; have hnc152 := NB584_574.out; have hcz153_0 : w117.cell? ⟨gb574, 0, none⟩ = some (.int .i64 t569) := (zP BK574.out 0).trans rfl; have hcz153_1 : w117.cell? ⟨gb574, 1, none⟩ = some (.int .i64 t570) := (zP BK574.out 1).trans rfl; have hcz153_2 : w117.cell? ⟨gb574, 2, none⟩ = some (.string t571) := (zP BK574.out 2).trans rfl; have hfz153_0 := zO BK574.out 0; have hfz153_1 := zO BK574.out 1; have hfz153_2 := zO BK574.out 2; have hnb154 := NB580_546.out; have hnc154 := NB546_580.out; have hnb155 := NB580_547.out; have hnc155 := NB547_580.out; have hnb156 := NB580_584.out; have hnc156 := NB584_580.out; have hcz157_0 : w117.cell? ⟨gb580, 0, none⟩ = some (.int .i64 t575) := (zP BK580.out 0).trans rfl; have hcz157_1 : w117.cell? ⟨gb580, 1, none⟩ = some (.int .i64 t576) := (zP BK580.out 1).trans rfl; have hcz157_2 : w117.cell? ⟨gb580, 2, none⟩ = some (.string t577) := (zP BK580.out 2).trans rfl; have hfz157_0 := zO BK580.out 0; have hfz157_1 := zO BK580.out 1; have hfz157_2 := zO BK580.out 2; go_wp2; go_meet
            case rel => exact ⟨_, (true), (by first | rfl | (simp; done) | (simp [*]; done) | (simp [bne]; done)), H', ⟨by have := HJ6.out; have := HJ27.out; first | omega | exact Nat.le_refl _⟩, ⟨by (with_reducible repeat (first | refine zL ?_ _ | refine zN ?_ | refine zM ?_ _)); exact BK546.out⟩, ⟨by (with_reducible repeat (first | refine zL ?_ _ | refine zN ?_ | refine zM ?_ _)); exact BK547.out⟩, ⟨by (with_reducible repeat (first | refine zL ?_ _ | refine zN ?_ | refine zM ?_ _)); exact BK574.out⟩, ⟨by (with_reducible repeat (first | refine zL ?_ _ | refine zN ?_ | refine zM ?_ _)); exact BK580.out⟩, ⟨by (with_reducible repeat (first | refine zL ?_ _ | refine zN ?_ | refine zM ?_ _)); exact BK584.out⟩, ⟨by repeat (first | (with_reducible first | exact HB.out | apply zH | apply zF | apply zG | refine zI ?_ GE546.out | refine zI ?_ GE547.out | refine zI ?_ GE574.out | refine zI ?_ GE580.out | refine zI ?_ GE584.out) | exact HB.out)⟩⟩
       case rest =>
        clear HC95
        try clear c1
        try clear c2
        try clear p2
        try clear c3
        try clear c3b0
        try clear c4
        try clear c5
        try clear c6
        try clear p6
        try clear c7
        try clear c8
        try clear c9
        try clear c10
        try clear c11
        try clear c12
        try clear c13
        try clear c14
        try clear c15
        try clear c18
        try clear c18b0
        try clear c18b1
        try clear c18b2
        try clear c20
        try clear c20b0
        try clear c20b1
        try clear c24
        try clear c25
        try clear c26
        try clear c27
        try clear c28
        try clear c29
        try clear c30
        try clear c31
        try clear c32
        try clear c33
        try clear c34
        try clear c42
        try clear c43
        try clear c45
        try clear c45b0
        try clear c45b1
        try clear c46
        try clear c47
        try clear c47b0
        try clear c47b1
        try clear c48
        try clear c51
        try clear c53
        try clear c53b0
        try clear c53b1
        try clear c54
        try clear c54b0
        try clear c54b1
        try clear c55
        try clear c55b0
        try clear c55b1
        try clear c56
        try clear c56b0
        try clear c57
        try clear c58
        try clear c58b0
        try clear c58b1
        try clear c58b2
        try clear c60
        try clear c61
        try clear c61b0
        try clear c64
        try clear p64
        try clear c65
        try clear c67
        try clear c69
        try clear c69b0
        try clear c69b1
        try clear c72
        try clear c73
        try clear c75
        try clear c79
        try clear c80
        try clear c82
        try clear c86
        try clear c87
        try clear c99
        try clear c100
        try clear c104
        try clear c105
        try clear c106
        try clear c110
        try clear c111
        try clear c112
        try clear c113
        try clear c118
        try clear c118b0
        try clear c118b1
        try clear c118b2
        try clear c119
        try clear c119b0
        try clear c120
        try clear c121
        try clear c122
        try clear c123
        try clear c125
        try clear c126
        try clear c127
        try clear c129
        try clear c129b0
        try clear c129b1
        try clear c130
        try clear c130b0
        try clear c130b1
        try clear c130b2
        try clear c131
        try clear c132
        try clear c133
        try clear c134
        try clear c136
        try clear c137
        try clear c138
        try clear c140
        try clear c141
        try clear c142
        try clear c143
        try clear c145
        try clear c146
        try clear c147
        try clear c149
        try clear c150
        try clear c151
        try clear c152
        try clear c154
        try clear c155
        try clear c156
        try clear hcz101_0
        try clear hcz101_1
        try clear hcz101_2
        try clear hcz107_0
        try clear hcz107_1
        try clear hcz107_2
        try clear hcz114_0
        try clear hcz114_1
        try clear hcz114_2
        try clear hcz116_0
        try clear hcz116_1
        try clear hcz116_2
        try clear hcz124_0
        try clear hcz124_1
        try clear hcz124_2
        try clear hcz128_0
        try clear hcz128_1
        try clear hcz128_2
        try clear hcz12_0
        try clear hcz12_1
        try clear hcz12_2
        try clear hcz135_0
        try clear hcz135_1
        try clear hcz135_2
        try clear hcz139_0
        try clear hcz139_1
        try clear hcz139_2
        try clear hcz13_0
        try clear hcz13_1
        try clear hcz13_2
        try clear hcz144_0
        try clear hcz144_1
        try clear hcz144_2
        try clear hcz148_0
        try clear hcz148_1
        try clear hcz148_2
        try clear hcz153_0
        try clear hcz153_1
        try clear hcz153_2
        try clear hcz157_0
        try clear hcz157_1
        try clear hcz157_2
        try clear hcz15_0
        try clear hcz15_1
        try clear hcz15_2
        try clear hcz16_0
        try clear hcz16_1
        try clear hcz16_2
        try clear hcz35_0
        try clear hcz35_1
        try clear hcz35_2
        try clear hcz37_0
        try clear hcz37_1
        try clear hcz37_2
        try clear hcz39_0
        try clear hcz39_1
        try clear hcz39_2
        try clear hcz40_0
        try clear hcz40_1
        try clear hcz40_2
        try clear hcz49_0
        try clear hcz49_1
        try clear hcz49_2
        try clear hcz50_0
        try clear hcz50_1
        try clear hcz50_2
        try clear hcz66_0
        try clear hcz66_1
        try clear hcz66_2
        try clear hcz68_0
        try clear hcz68_1
        try clear hcz68_2
        try clear hcz74_0
        try clear hcz74_1
        try clear hcz74_2
        try clear hcz76_0
        try clear hcz76_1
        try clear hcz76_2
        try clear hcz81_0
        try clear hcz81_1
        try clear hcz81_2
        try clear hcz83_0
        try clear hcz83_1
        try clear hcz83_2
        try clear hcz88_0
        try clear hcz88_1
        try clear hcz88_2
        try clear hfz101_0
        try clear hfz101_1
        try clear hfz101_2
        try clear hfz107_0
        try clear hfz107_1
        try clear hfz107_2
        try clear hfz114_0
        try clear hfz114_1
        try clear hfz114_2
        try clear hfz116_0
        try clear hfz116_1
        try clear hfz116_2
        try clear hfz124_0
        try clear hfz124_1
        try clear hfz124_2
        try clear hfz128_0
        try clear hfz128_1
        try clear hfz128_2
        try clear hfz12_0
        try clear hfz12_1
        try clear hfz12_2
        try clear hfz135_0
        try clear hfz135_1
        try clear hfz135_2
        try clear hfz139_0
        try clear hfz139_1
        try clear hfz139_2
        try clear hfz13_0
        try clear hfz13_1
        try clear hfz13_2
        try clear hfz144_0
        try clear hfz144_1
        try clear hfz144_2
        try clear hfz148_0
        try clear hfz148_1
        try clear hfz148_2
        try clear hfz153_0
        try clear hfz153_1
        try clear hfz153_2
        try clear hfz157_0
        try clear hfz157_1
        try clear hfz157_2
        try clear hfz15_0
        try clear hfz15_1
        try clear hfz15_2
        try clear hfz16_0
        try clear hfz16_1
        try clear hfz16_2
        try clear hfz35_0
        try clear hfz35_1
        try clear hfz35_2
        try clear hfz37_0
        try clear hfz37_1
        try clear hfz37_2
        try clear hfz39_0
        try clear hfz39_1
        try clear hfz39_2
        try clear hfz40_0
        try clear hfz40_1
        try clear hfz40_2
        try clear hfz49_0
        try clear hfz49_1
        try clear hfz49_2
        try clear hfz50_0
        try clear hfz50_1
        try clear hfz50_2
        try clear hfz66_0
        try clear hfz66_1
        try clear hfz66_2
        try clear hfz68_0
        try clear hfz68_1
        try clear hfz68_2
        try clear hfz74_0
        try clear hfz74_1
        try clear hfz74_2
        try clear hfz76_0
        try clear hfz76_1
        try clear hfz76_2
        try clear hfz81_0
        try clear hfz81_1
        try clear hfz81_2
        try clear hfz83_0
        try clear hfz83_1
        try clear hfz83_2
        try clear hfz88_0
        try clear hfz88_1
        try clear hfz88_2
        try clear p2
        try clear p6
        try clear p64
        obtain ⟨kq, x212_94, rfl, HA, HJ94, BK546, BK547, BK574, BK580, BK584, HB⟩ := hcut
        cases kq with
        | zero => exact absurd HA.out (by simp [laws_FnOrder.j4])
        | succ kj94 =>
         have H := HA.out; clear HA; simp only [laws_FnOrder.j4] at H
         by_cases c158 : x212_94 = true
         ·subst c158
          have H1 : (some false) = some r := by rw [if_pos rfl] at H; exact H
          clear H; have H := H1; clear H1
          as_aux_lemma =>
           obtain rfl := Option.some.inj H; go_wp2; go_ret; exact ⟨by first | rfl | (simp <;> rfl) | (simp [*] <;> rfl), by repeat (first | (with_reducible first | exact HB.out | apply zH | apply zF | apply zG | refine zI ?_ GE546.out | refine zI ?_ GE547.out | refine zI ?_ GE574.out | refine zI ?_ GE580.out | refine zI ?_ GE584.out) | exact HB.out)⟩
         ·replace c158 := Bool.eq_false_iff.mpr c158
          subst c158; have H1 : (if t573 = true then ((impl_ValueBytes.f t569 t570 t571).bind fun bt589 => (if bt589.2 = true then (if 0 ≤ t568 then (if t568 ≤ t572 then (if t572 ≤ (t567.size : Int) then (some ((t567.extract (t568 : Int).toNat (t572 : Int).toNat).toList == bt589.1.toList)) else (none)) else (none)) else (none)) else (some false))) else (some true)) = some r := by rw [if_neg (show ¬ (false = true) by decide)] at H; exact H
          clear H; have H := H1; clear H1
          by_cases c159 : t573 = true
          ·subst c159
           have H1 : ((impl_ValueBytes.f t569 t570 t571).bind fun bt589 => (if bt589.2 = true then (if 0 ≤ t568 then (if t568 ≤ t572 then (if t572 ≤ (t567.size : Int) then (some ((t567.extract (t568 : Int).toNat (t572 : Int).toNat).toList == bt589.1.toList)) else (none)) else (none)) else (none)) else (some false))) = some r := by rw [if_pos rfl] at H; exact H
           clear H; have H := H1; clear H1; replace H := zAF H; obtain ⟨⟨t589, t590⟩, A1600, H⟩ := H; replace H : (if t590 = true then (if 0 ≤ t568 then (if t568 ≤ t572 then (if t572 ≤ (t567.size : Int) then (some ((t567.extract (t568 : Int).toNat (t572 : Int).toNat).toList == t589.toList)) else (none)) else (none)) else (none)) else (some false)) = some r := H; have A160 := zA A1600; clear A1600
           by_cases c161 : t590 = true
           ·subst c161
            have H1 : (if 0 ≤ t568 then (if t568 ≤ t572 then (if t572 ≤ (t567.size : Int) then (some ((t567.extract (t568 : Int).toNat (t572 : Int).toNat).toList == t589.toList)) else (none)) else (none)) else (none)) = some r := by rw [if_pos rfl] at H; exact H
            clear H; have H := H1; clear H1
            by_cases c162 : 0 ≤ t568
            ·rw [if_pos c162] at H
             have c162b0 := eq_true c162; have c162b1 : decide (0 ≤ t568) = true := zX c162; clear c162
             by_cases c163 : t568 ≤ t572
             ·rw [if_pos c163] at H
              have c163b0 := eq_true c163; have c163b1 : decide (t568 ≤ t572) = true := zX c163; clear c163
              by_cases c164 : t572 ≤ (t567.size : Int)
              ·rw [if_pos c164] at H
               have c164b0 := eq_true c164; have c164b1 : decide (t572 ≤ (t567.size : Int)) = true := zX c164; clear c164
               as_aux_lemma =>
                obtain rfl := Option.some.inj H; have hnb165 := NB574_546.out; have hnc165 := NB546_574.out; have hnb166 := NB574_547.out; have hnc166 := NB547_574.out; have hnb167 := NB574_580.out; have hnc167 := NB580_574.out; have hnb168 := NB574_584.out; have hnc168 := NB584_574.out; have hcz169_0 : wc.cell? ⟨gb574, 0, none⟩ = some (.int .i64 t569) := (zP BK574.out 0).trans rfl; have hcz169_1 : wc.cell? ⟨gb574, 1, none⟩ = some (.int .i64 t570) := (zP BK574.out 1).trans rfl; have hcz169_2 : wc.cell? ⟨gb574, 2, none⟩ = some (.string t571) := (zP BK574.out 2).trans rfl; have hfz169_0 := zO BK574.out 0; have hfz169_1 := zO BK574.out 1; have hfz169_2 := zO BK574.out 2; go_wp2_with (first | ((with_reducible refine yB (f := 11) rfl ?_); refine goesL_ (some 216) rfl rfl Tryd.func11 (by kernel_rfl) rfl #[.agg #[.int .i64 t569, .int .i64 t570, .string t571]] rfl (by (try simp only [zAA, zAB, zAC]); first | done | rfl) ?_; (with_reducible refine (impl_ValueBytes.calls t569 t570 t571 t589 true _ A160.out).mono ?_); rintro e w170 ⟨rfl, hb⟩; refine ⟨_, rfl, ?_⟩; have n0_ := zA (yE (g := gb546) (o := .cells #[.int .i64 t100, .int .i64 t541, .string t542] 27 (0, 0)) (by (with_reducible repeat (first | refine zL ?_ _ | refine zN ?_ | refine zM ?_ _)); exact BK546.out) hb); have n1_ := zA (yE (g := gb547) (o := .cells #[.int .i64 t543, .int .i64 t544, .string t545] 27 (0, 0)) (by (with_reducible repeat (first | refine zL ?_ _ | refine zN ?_ | refine zM ?_ _)); exact BK547.out) hb); have n2_ := zA (yE (g := gb574) (o := .cells #[.int .i64 t569, .int .i64 t570, .string t571] 27 (0, 0)) (by (with_reducible repeat (first | refine zL ?_ _ | refine zN ?_ | refine zM ?_ _)); exact BK574.out) hb); have n3_ := zA (yE (g := gb580) (o := .cells #[.int .i64 t575, .int .i64 t576, .string t577] 27 (0, 0)) (by (with_reducible repeat (first | refine zL ?_ _ | refine zN ?_ | refine zM ?_ _)); exact BK580.out) hb); have n4_ := zA (yE (g := gb584) (o := .cells #[.int .i64 t581, .int .i64 t582, .string t583] 27 (0, 0)) (by (with_reducible repeat (first | refine zL ?_ _ | refine zN ?_ | refine zM ?_ _)); exact BK584.out) hb); have n5_ := zA (zAD (by repeat (first | (with_reducible first | exact HB.out | apply zH | apply zF | apply zG | refine zI ?_ GE546.out | refine zI ?_ GE547.out | refine zI ?_ GE574.out | refine zI ?_ GE580.out | refine zI ?_ GE584.out) | exact HB.out)) hb); clear BK546; clear BK547; clear BK574; clear BK580; clear BK584; clear HB; have BK546 := n0_; have BK547 := n1_; have BK574 := n2_; have BK580 := n3_; have BK584 := n4_; have HB := n5_; clear n0_ n1_ n2_ n3_ n4_ n5_; (try clear hb))); go_ret; exact ⟨by first | rfl | (simp <;> rfl) | (simp [*] <;> rfl), by repeat (first | (with_reducible first | exact HB.out | apply zH | apply zF | apply zG | refine zI ?_ GE546.out | refine zI ?_ GE547.out | refine zI ?_ GE574.out | refine zI ?_ GE580.out | refine zI ?_ GE584.out) | exact HB.out)⟩
              ·rw [if_neg c164] at H
               exact absurd H (by simp)
             ·rw [if_neg c163] at H
              exact absurd H (by simp)
            ·rw [if_neg c162] at H
             exact absurd H (by simp)
           ·replace c161 := Bool.eq_false_iff.mpr c161
            subst c161; have H1 : (some false) = some r := by rw [if_neg (show ¬ (false = true) by decide)] at H; exact H
            clear H; have H := H1; clear H1
            as_aux_lemma =>
             obtain rfl := Option.some.inj H; have hnb171 := NB574_546.out; have hnc171 := NB546_574.out; have hnb172 := NB574_547.out; have hnc172 := NB547_574.out; have hnb173 := NB574_580.out; have hnc173 := NB580_574.out; have hnb174 := NB574_584.out; have hnc174 := NB584_574.out; have hcz175_0 : wc.cell? ⟨gb574, 0, none⟩ = some (.int .i64 t569) := (zP BK574.out 0).trans rfl; have hcz175_1 : wc.cell? ⟨gb574, 1, none⟩ = some (.int .i64 t570) := (zP BK574.out 1).trans rfl; have hcz175_2 : wc.cell? ⟨gb574, 2, none⟩ = some (.string t571) := (zP BK574.out 2).trans rfl; have hfz175_0 := zO BK574.out 0; have hfz175_1 := zO BK574.out 1; have hfz175_2 := zO BK574.out 2; go_wp2_with (first | ((with_reducible refine yB (f := 11) rfl ?_); refine goesL_ (some 216) rfl rfl Tryd.func11 (by kernel_rfl) rfl #[.agg #[.int .i64 t569, .int .i64 t570, .string t571]] rfl (by (try simp only [zAA, zAB, zAC]); first | done | rfl) ?_; (with_reducible refine (impl_ValueBytes.calls t569 t570 t571 t589 false _ A160.out).mono ?_); rintro e w176 ⟨rfl, hb⟩; refine ⟨_, rfl, ?_⟩; have n0_ := zA (yE (g := gb546) (o := .cells #[.int .i64 t100, .int .i64 t541, .string t542] 27 (0, 0)) (by (with_reducible repeat (first | refine zL ?_ _ | refine zN ?_ | refine zM ?_ _)); exact BK546.out) hb); have n1_ := zA (yE (g := gb547) (o := .cells #[.int .i64 t543, .int .i64 t544, .string t545] 27 (0, 0)) (by (with_reducible repeat (first | refine zL ?_ _ | refine zN ?_ | refine zM ?_ _)); exact BK547.out) hb); have n2_ := zA (yE (g := gb574) (o := .cells #[.int .i64 t569, .int .i64 t570, .string t571] 27 (0, 0)) (by (with_reducible repeat (first | refine zL ?_ _ | refine zN ?_ | refine zM ?_ _)); exact BK574.out) hb); have n3_ := zA (yE (g := gb580) (o := .cells #[.int .i64 t575, .int .i64 t576, .string t577] 27 (0, 0)) (by (with_reducible repeat (first | refine zL ?_ _ | refine zN ?_ | refine zM ?_ _)); exact BK580.out) hb); have n4_ := zA (yE (g := gb584) (o := .cells #[.int .i64 t581, .int .i64 t582, .string t583] 27 (0, 0)) (by (with_reducible repeat (first | refine zL ?_ _ | refine zN ?_ | refine zM ?_ _)); exact BK584.out) hb); have n5_ := zA (zAD (by repeat (first | (with_reducible first | exact HB.out | apply zH | apply zF | apply zG | refine zI ?_ GE546.out | refine zI ?_ GE547.out | refine zI ?_ GE574.out | refine zI ?_ GE580.out | refine zI ?_ GE584.out) | exact HB.out)) hb); clear BK546; clear BK547; clear BK574; clear BK580; clear BK584; clear HB; have BK546 := n0_; have BK547 := n1_; have BK574 := n2_; have BK580 := n3_; have BK584 := n4_; have HB := n5_; clear n0_ n1_ n2_ n3_ n4_ n5_; (try clear hb))); go_ret; exact ⟨by first | rfl | (simp <;> rfl) | (simp [*] <;> rfl), by repeat (first | (with_reducible first | exact HB.out | apply zH | apply zF | apply zG | refine zI ?_ GE546.out | refine zI ?_ GE547.out | refine zI ?_ GE574.out | refine zI ?_ GE580.out | refine zI ?_ GE584.out) | exact HB.out)⟩
          ·replace c159 := Bool.eq_false_iff.mpr c159
           subst c159; have H1 : (some true) = some r := by rw [if_neg (show ¬ (false = true) by decide)] at H; exact H
           clear H; have H := H1; clear H1
           as_aux_lemma =>
            obtain rfl := Option.some.inj H; go_wp2; go_ret; exact ⟨by first | rfl | (simp <;> rfl) | (simp [*] <;> rfl), by repeat (first | (with_reducible first | exact HB.out | apply zH | apply zF | apply zG | refine zI ?_ GE546.out | refine zI ?_ GE547.out | refine zI ?_ GE574.out | refine zI ?_ GE580.out | refine zI ?_ GE584.out) | exact HB.out)⟩
end Go.Proofs.YthhkkhnjkoacnaaDoor.PA
end
section
namespace Go.Proofs.YthhkkhnjkoacnaaDoor.PA
open Go.RowKit Go.Proofs.YthhkkhnjkoacnaaDoorW.PrintWords Go.Proofs.YthhkkhnjkoacnaaDoorW.PrintLast Go.Proofs.YthhkkhnjkoacnaaDoorW.PrintMore
attribute [local go_sem] max2_int min2_int max_two min_two max_three min_three max_four min_four
set_option linter.unusedVariables false
set_option linter.unusedSimpArgs false
set_option maxHeartbeats 60000000
set_option maxRecDepth 100000
def impl_RowBytes.l0 : Nat → ByteArray → List (S27) → Int → Int → Option (ByteArray × Bool)
 | 0, _, _, _, _ => none
 | k + 1, x4, x10, x11, x12 => if x12 < x11 then (if 0 ≤ x12 then (if x12 < (x10.length : Int) then ((impl_Value_bytes.f ((rd_T27 x10 x12).f0) ((rd_T27 x10 x12).f1) ((rd_T27 x10 x12).f2)).bind fun t13 => (if x4.size + t13.size ≤ 9223372036854775807 then (impl_RowBytes.l0 k (x4 ++ t13) x10 x11 (wrap64 (x12 + 1))) else (none))) else (none)) else (none)) else (some (x4, true))
end Go.Proofs.YthhkkhnjkoacnaaDoor.PA
end
section
namespace Go.Proofs.YthhkkhnjkoacnaaDoor.PB
open Go.RowKit Go.Proofs.YthhkkhnjkoacnaaDoorW.PrintWords Go.Proofs.YthhkkhnjkoacnaaDoorW.PrintLast Go.Proofs.YthhkkhnjkoacnaaDoorW.PrintMore
set_option linter.unusedVariables false
theorem ev_pos {α : Type} {c : Prop} [Decidable c] {f g : Nat → Option α} {r : α} (hc : c) (h : Ev f r) : Ev (fun k => if c then f k else g k) r := by
 simp only [if_pos hc]; exact h
theorem ev_neg {α : Type} {c : Prop} [Decidable c] {f g : Nat → Option α} {r : α} (hc : ¬ c) (h : Ev g r) : Ev (fun k => if c then f k else g k) r := by
 simp only [if_neg hc]; exact h
theorem ev_bind {α β : Type} {g : Nat → Option α} {f : Nat → α → Option β} {a : α} {r : β} (h : Ev g a) (k : Ev (fun n => f n a) r) : Ev (fun n => (g n).bind (f n)) r := Ev.bind h k
theorem ev_const {α β : Type} {o : Option α} {f : Nat → α → Option β} {a : α} {r : β} (h : o = some a) (k : Ev (fun n => f n a) r) : Ev (fun n => o.bind (f n)) r := by
 subst h; exact k
theorem ev_eq {α : Type} {f : Nat → Option α} {r r' : α} (h : Ev f r) (e : r = r') : Ev f r' := e ▸ h
theorem w64 {x : Int} (h0 : -9223372036854775808 ≤ x) (h1 : x ≤ 9223372036854775807) : wrap64 x = x := by
 unfold wrap64; omega
theorem ba_ext {a b : ByteArray} (h : a.toList = b.toList) : a = b := by
 rw [ByteArray.toList_eq, ByteArray.toList_eq] at h
 have h' : a.data = b.data := Array.toList_inj.mp h
 cases a; cases b; simp_all
theorem size_toList (s : ByteArray) : s.toList.length = s.size := by rw [ByteArray.toList_eq]; exact data_length s
theorem bt_get (s : ByteArray) (i : Nat) (h : i < s.size) : bt s (i : Int) = ((s.toList.getD i 0).toNat : Int) := by
 rw [ByteArray.toList_eq]
 unfold bt
 rw [dif_pos (by simpa using h)]
 have h' : i < s.data.toList.length := by rw [data_length]; exact h
 simp [List.getD_eq_getElem?_getD, List.getElem?_eq_getElem h']
 rfl
end Go.Proofs.YthhkkhnjkoacnaaDoor.PB
end
section
namespace Go.Proofs.YthhkkhnjkoacnaaDoor.PD
open Go.RowKit Go.Proofs.YthhkkhnjkoacnaaDoorW.PrintWords Go.Proofs.YthhkkhnjkoacnaaDoorW.PrintLast Go.Proofs.YthhkkhnjkoacnaaDoorW.PrintMore Go.Proofs.YthhkkhnjkoacnaaDoor.PB Go.Proofs.YthhkkhnjkoacnaaDoor.PA
set_option linter.unusedVariables false
theorem drop_at (l : List UInt8) (i : Nat) (h : i < l.length) : l.drop i = l.getD i 0 :: l.drop (i + 1) := by
 rw [List.drop_eq_getElem_cons h]; simp [List.getD_eq_getElem?_getD, List.getElem?_eq_getElem h]
def one (n : Int) : ByteArray := strOfNums [n % 256]
theorem one_size (n : Int) : (one n).size = 1 := by unfold one; rw [strOfNums_size]; rfl
theorem oneI (n : Int) : impl_oneByte.f n = some (one n) := rfl
end Go.Proofs.YthhkkhnjkoacnaaDoor.PD
end
section
namespace Go.Proofs.YthhkkhnjkoacnaaDoor.PK
open Go.RowKit Go.Proofs.YthhkkhnjkoacnaaDoorW.PrintWords Go.Proofs.YthhkkhnjkoacnaaDoorW.PrintLast Go.Proofs.YthhkkhnjkoacnaaDoorW.PrintMore Go.Proofs.YthhkkhnjkoacnaaDoor.PB Go.Proofs.YthhkkhnjkoacnaaDoor.PD Go.Proofs.YthhkkhnjkoacnaaDoor.PA
set_option linter.unusedVariables false
theorem app_size (a b : ByteArray) : (a ++ b).size = a.size + b.size := ByteArray.size_append
end Go.Proofs.YthhkkhnjkoacnaaDoor.PK
end
section
namespace Go.Proofs.YthhkkhnjkoacnaaDoor.PL
open Go.RowKit Go.Proofs.YthhkkhnjkoacnaaDoorW.PrintWords Go.Proofs.YthhkkhnjkoacnaaDoorW.PrintLast Go.Proofs.YthhkkhnjkoacnaaDoorW.PrintMore Go.Proofs.YthhkkhnjkoacnaaDoor.PB Go.Proofs.YthhkkhnjkoacnaaDoor.PA
set_option linter.unusedVariables false
theorem rdOf_at {α : Type} (d : α) (l : List α) (i : Nat) (h : i < l.length) : rdOf d l (i : Int) = l[i] := by
 simp [rdOf, List.getD_eq_getElem?_getD, List.getElem?_eq_getElem h]
end Go.Proofs.YthhkkhnjkoacnaaDoor.PL
end
section
namespace Go.Proofs.YthhkkhnjkoacnaaDoor.PS

end Go.Proofs.YthhkkhnjkoacnaaDoor.PS
end
section
namespace Go.Proofs.YthhkkhnjkoacnaaDoor.PT
open Go.RowKit Go.Proofs.YthhkkhnjkoacnaaDoorW.PrintWords Go.Proofs.YthhkkhnjkoacnaaDoorW.PrintLast Go.Proofs.YthhkkhnjkoacnaaDoorW.PrintMore Go.Proofs.YthhkkhnjkoacnaaDoor.PB Go.Proofs.YthhkkhnjkoacnaaDoor.PD Go.Proofs.YthhkkhnjkoacnaaDoor.PK Go.Proofs.YthhkkhnjkoacnaaDoor.PL Go.Proofs.YthhkkhnjkoacnaaDoor.PS Go.Proofs.YthhkkhnjkoacnaaDoor.PA
set_option linter.unusedVariables false
theorem inS (a b c : Int) : spec_l1In.f a b c = some (decide (b ≤ a ∧ a ≤ c)) := by
 unfold spec_l1In.f
 by_cases h : a ≥ b
 ·rw [if_pos h]; simp [show b ≤ a from h]
 ·rw [if_neg h]; simp [show ¬ b ≤ a from h]
theorem inI (a b c : Int) : impl_within.f a b c = some (decide (b ≤ a ∧ a ≤ c)) := by
 unfold impl_within.f
 by_cases h : a ≥ b
 ·rw [if_pos h]; simp [show b ≤ a from h]
 ·rw [if_neg h]; simp [show ¬ b ≤ a from h]
end Go.Proofs.YthhkkhnjkoacnaaDoor.PT
end
section
namespace Go.Proofs.YthhkkhnjkoacnaaDoor.PU

end Go.Proofs.YthhkkhnjkoacnaaDoor.PU
end
section
namespace Go.Proofs.YthhkkhnjkoacnaaDoor.PG
open Go.RowKit Go.Proofs.YthhkkhnjkoacnaaDoorW.PrintWords Go.Proofs.YthhkkhnjkoacnaaDoorW.PrintLast Go.Proofs.YthhkkhnjkoacnaaDoorW.PrintMore Go.Proofs.YthhkkhnjkoacnaaDoor.PB Go.Proofs.YthhkkhnjkoacnaaDoor.PL
set_option linter.unusedVariables false
theorem loop_up {β : Type} {r : β} (n : Nat) (S : Nat → Nat → Option β) (hend : Ev (S n) r) (hround : ∀ i, i < n → Ev (S (i + 1)) r → Ev (S i) r) : Ev (S 0) r := by
 have key : ∀ d i, i + d = n → Ev (S i) r := by
  intro d
  induction d with
  | zero => intro i hi; rw [show i = n by omega]; exact hend
  | succ d ih => intro i hi; exact hround i (by omega) (ih (i + 1) (by omega))
 exact key n 0 (by omega)
end Go.Proofs.YthhkkhnjkoacnaaDoor.PG
end
section
namespace Go.Proofs.YthhkkhnjkoacnaaDoor.PQ

end Go.Proofs.YthhkkhnjkoacnaaDoor.PQ
end
section
namespace Go.Proofs.YthhkkhnjkoacnaaDoor.PV

end Go.Proofs.YthhkkhnjkoacnaaDoor.PV
end
section
namespace Go.Proofs.YthhkkhnjkoacnaaDoor.PW
open Go.RowKit Go.Proofs.YthhkkhnjkoacnaaDoorW.PrintWords Go.Proofs.YthhkkhnjkoacnaaDoorW.PrintLast Go.Proofs.YthhkkhnjkoacnaaDoorW.PrintMore Go.Proofs.YthhkkhnjkoacnaaDoor.PB Go.Proofs.YthhkkhnjkoacnaaDoor.PD Go.Proofs.YthhkkhnjkoacnaaDoor.PK Go.Proofs.YthhkkhnjkoacnaaDoor.PL Go.Proofs.YthhkkhnjkoacnaaDoor.PS Go.Proofs.YthhkkhnjkoacnaaDoor.PT Go.Proofs.YthhkkhnjkoacnaaDoor.PU Go.Proofs.YthhkkhnjkoacnaaDoor.PG Go.Proofs.YthhkkhnjkoacnaaDoor.PQ Go.Proofs.YthhkkhnjkoacnaaDoor.PV Go.Proofs.YthhkkhnjkoacnaaDoor.PA
set_option linter.unusedVariables false
theorem loop_yes {β : Type} (n : Nat) (S : Nat → Nat → Option β) (Q : Nat → Prop) (b : β) (hround : ∀ r i, i < n → Q i → Ev (S (i + 1)) r → Ev (S i) r) (hend : Ev (S n) b) (hq : ∀ i, i < n → Q i) : Ev (S 0) b :=
 loop_up n S hend (fun i hi h => hround b i hi (hq i hi) h)
theorem loop_no {β : Type} (n : Nat) (S : Nat → Nat → Option β) (Q : Nat → Prop) (no : β) (hround : ∀ r i, i < n → Q i → Ev (S (i + 1)) r → Ev (S i) r) (hno : ∀ i, i < n → ¬ Q i → Ev (S i) no) (hq : ¬ ∀ i, i < n → Q i) : Ev (S 0) no := by
 refine Classical.byContradiction fun hc => hq ?_
 have key : ∀ i, i ≤ n → (¬ Ev (S i) no) ∧ ∀ j, j < i → Q j := by
  intro i
  induction i with
  | zero => intro _; exact ⟨hc, fun j hj => absurd hj (Nat.not_lt_zero j)⟩
  | succ i ih =>
   intro hi
   obtain ⟨h1, h2⟩ := ih (by omega)
   have hQ : Q i := Classical.byContradiction fun h => h1 (hno i (by omega) h)
   refine ⟨fun h => h1 (hround no i (by omega) hQ h), fun j hj => ?_⟩
   by_cases e : j = i
   ·subst e; exact hQ
   ·exact h2 j (by omega)
 exact (key n (Nat.le_refl n)).2
end Go.Proofs.YthhkkhnjkoacnaaDoor.PW
end
section
namespace Go.Proofs.YthhkkhnjkoacnaaDoor.QV
open Go.RowKit Go.Proofs.YthhkkhnjkoacnaaDoorW.PrintWords Go.Proofs.YthhkkhnjkoacnaaDoorW.PrintLast Go.Proofs.YthhkkhnjkoacnaaDoorW.PrintMore Go.Proofs.YthhkkhnjkoacnaaDoor.PB Go.Proofs.YthhkkhnjkoacnaaDoor.PD Go.Proofs.YthhkkhnjkoacnaaDoor.PL Go.Proofs.YthhkkhnjkoacnaaDoor.PT Go.Proofs.YthhkkhnjkoacnaaDoor.PU Go.Proofs.YthhkkhnjkoacnaaDoor.PG Go.Proofs.YthhkkhnjkoacnaaDoor.PW Go.Proofs.YthhkkhnjkoacnaaDoor.QR Go.Proofs.YthhkkhnjkoacnaaDoor.PA
set_option linter.unusedVariables false
theorem app_list (a b : ByteArray) : (a ++ b).toList = a.toList ++ b.toList := by
 rw [ByteArray.toList_eq, ByteArray.toList_eq, ByteArray.toList_eq]; simp
theorem sn_list (xs : List Int) : (strOfNums xs).toList = xs.map fun n => UInt8.ofNat n.toNat := by rw [ByteArray.toList_eq]; exact strOfNums_data xs
theorem sn_append (xs ys : List Int) : strOfNums (xs ++ ys) = strOfNums xs ++ strOfNums ys := by
 apply ba_ext
 rw [app_list, sn_list, sn_list, sn_list, List.map_append]
theorem app_size (a b : ByteArray) : (a ++ b).size = a.size + b.size := ByteArray.size_append
def ints (l : List UInt8) : List Int := l.map fun b => (b.toNat : Int)
theorem sn_ints (l : List UInt8) : (strOfNums (ints l)).toList = l := by
 rw [sn_list]
 unfold ints
 rw [List.map_map]
 have : ((fun n : Int => UInt8.ofNat n.toNat) ∘ fun b : UInt8 => (b.toNat : Int)) = id := by
  funext b
  simp
 rw [this, List.map_id]
def tint (l : List UInt8) : List Int := ints (rep 0 [0, 255] l)
theorem tint_zero (l : List UInt8) : tint (0 :: l) = 0 :: 255 :: tint l := by
 unfold tint
 rw [rep_cons, if_pos rfl]
 rfl
theorem tint_other {c : UInt8} (h : c ≠ 0) (l : List UInt8) : tint (c :: l) = (c.toNat : Int) :: tint l := by
 unfold tint
 rw [rep_cons, if_neg h]
 rfl
theorem tint_len : ∀ l : List UInt8, (tint l).length ≤ 2 * l.length := by
 intro l
 induction l with
 | nil => simp [tint, rep, ints]
 | cons c l ih =>
  by_cases h : c = 0
  ·subst h; rw [tint_zero]; simp; omega
  ·rw [tint_other h]; simp; omega
def valI (a b : Int) (s : ByteArray) : List Int :=
 (a % 256) :: (if a = 2 then [b % 256] else if a = 3 then [(wrap64 (b + 1000000000)) / 16777216 % 256, (wrap64 (b + 1000000000)) / 65536 % 256, (wrap64 (b + 1000000000)) / 256 % 256, (wrap64 (b + 1000000000)) % 256] else if a = 4 then tint s.toList ++ [0, 0] else [])
theorem valI_len (a b : Int) (s : ByteArray) : (valI a b s).length ≤ 2 * s.size + 10 := by
 unfold valI
 have h := tint_len s.toList
 rw [size_toList] at h
 rw [List.length_cons]
 split
 ·simp
 ·split
  ·simp
  ·split
   ·rw [List.length_append]; simp only [List.length_cons, List.length_nil]; omega
   ·simp
theorem l4loop (s : ByteArray) (hs : s.size ≤ 100000) (a b : Int) : ∀ (d i : Nat) (x : List Int), i + d = s.size → x.length ≤ 2 * i + 10 → Ev (fun k => spec_l4Bytes.l0 k x (i : Int) a b s) (strOfNums (x ++ (tint (s.toList.drop i) ++ [0, 0]))) := by
 intro d
 induction d with
 | zero =>
  intro i x hi hx
  rw [List.drop_eq_nil_of_le (by rw [size_toList]; omega)]
  refine Ev.step (f := fun _ => some (strOfNums (x ++ [0, 0]))) (fun k => ?_) (Ev.now _)
  simp only [spec_l4Bytes.l0]
  rw [if_neg (by omega)]
  simp only [Option.bind_some]
  rw [if_pos (by simp only [List.length_cons, List.length_nil]; omega)]
 | succ d ih =>
  intro i x hi hx
  have hlt : i < s.size := by omega
  have hg := bt_get s i hlt
  have hdr := drop_at s.toList i (by rw [size_toList]; omega)
  by_cases hc : s.toList.getD i 0 = 0
  ·have hb : bt s (i : Int) = 0 := by rw [hg, hc]; rfl
   rw [hdr, hc, tint_zero]
   refine ev_eq (Ev.step (f := fun k => spec_l4Bytes.l0 k (x ++ [0] ++ [255]) ((i + 1 : Nat) : Int) a b s) (fun k => ?_) (ih (i + 1) (x ++ [0] ++ [255]) (by omega) (by simp only [List.length_append, List.length_cons, List.length_nil]; omega))) (by simp only [List.append_assoc, List.cons_append, List.nil_append])
   simp only [spec_l4Bytes.l0]
   rw [if_pos (by omega), if_pos (by omega), if_pos (by omega), hb]
   simp only [Option.bind_some]
   rw [if_pos trivial, if_pos (by simp only [List.length_append, List.length_cons, List.length_nil]; omega), w64 (x := (i : Int) + 1) (by omega) (by omega)]
   rfl
  ·have hb : ¬ bt s (i : Int) = 0 := by
    rw [hg]
    intro h
    exact hc (UInt8.toNat_inj.1 (by rw [show (0 : UInt8).toNat = 0 from rfl]; omega))
   rw [hdr, tint_other hc]
   refine ev_eq (Ev.step (f := fun k => spec_l4Bytes.l0 k (x ++ [bt s (i : Int)]) ((i + 1 : Nat) : Int) a b s) (fun k => ?_) (ih (i + 1) (x ++ [bt s (i : Int)]) (by omega) (by simp only [List.length_append, List.length_cons, List.length_nil]; omega))) (by rw [hg]; simp only [List.append_assoc, List.cons_append, List.nil_append])
   simp only [spec_l4Bytes.l0]
   rw [if_pos (by omega), if_pos (by omega), if_pos (by omega)]
   simp only [Option.bind_some]
   rw [if_neg hb, w64 (x := (i : Int) + 1) (by omega) (by omega)]
   rfl
theorem bytesVS (a b : Int) (s : ByteArray) (hs : s.size ≤ 100000) : Ev (fun k => spec_l4Bytes.f k a b s) (strOfNums (valI a b s)) := by
 unfold spec_l4Bytes.f valI
 refine ev_const (a := [a % 256]) rfl ?_
 by_cases h2 : a = 2
 ·refine ev_pos h2 (ev_pos (by simp only [List.length_cons, List.length_nil]; omega) (ev_eq (Ev.now _) ?_))
  rw [if_pos h2]; rfl
 ·refine ev_neg h2 ?_
  rw [if_neg h2]
  by_cases h3 : a = 3
  ·refine ev_pos h3 (ev_const rfl (ev_pos (by simp only [List.length_cons, List.length_nil]; omega) (ev_eq (Ev.now _) ?_)))
   rw [if_pos h3]; rfl
  ·refine ev_neg h3 ?_
   rw [if_neg h3]
   by_cases h4 : a = 4
   ·refine ev_pos h4 ?_
    rw [if_pos h4]
    exact ev_eq (l4loop s hs a b s.size 0 [a % 256] (by omega) (by simp)) (by simp)
   ·refine ev_neg h4 ?_
    rw [if_neg h4]
    exact Ev.now _
theorem repAll (s : ByteArray) (hs : s.size ≤ 100000) : strings_ReplaceAll.f s ⟨#[0]⟩ ⟨#[0, 255]⟩ = some (strOfNums (tint s.toList)) := by
 unfold strings_ReplaceAll.f
 rw [if_pos ⟨by decide, by decide, by omega, by decide⟩]
 congr 1
 apply ba_ext
 unfold tint
 rw [sn_ints, ByteArray.toList_eq, ByteArray.toList_eq]
 rfl
theorem bytesVI (a b : Int) (s : ByteArray) (hs : s.size ≤ 100000) : impl_Value_bytes.f a b s = some (strOfNums (valI a b s)) := by
 have hl := tint_len s.toList
 rw [size_toList] at hl
 unfold impl_Value_bytes.f valI
 rw [oneI]
 simp only [Option.bind_some]
 have ho : one a = strOfNums [a % 256] := rfl
 by_cases h2 : a = 2
 ·rw [if_pos h2, if_pos h2, oneI]
  simp only [Option.bind_some]
  rw [if_pos (by rw [one_size, one_size]; omega), ho, show one b = strOfNums [b % 256] from rfl, ← sn_append]
  rfl
 ·rw [if_neg h2, if_neg h2]
  by_cases h3 : a = 3
  ·rw [if_pos h3, if_pos h3]
   rw [if_pos (by rw [one_size, strOfNums_size]; simp only [List.length_cons, List.length_nil]; omega), ho, ← sn_append]
   rfl
  ·rw [if_neg h3, if_neg h3]
   by_cases h4 : a = 4
   ·rw [if_pos h4, if_pos h4, repAll s hs]
    simp only [Option.bind_some]
    have h00 : (⟨#[0, 0]⟩ : ByteArray) = strOfNums [0, 0] := rfl
    rw [if_pos (by rw [strOfNums_size]; omega), if_pos (by rw [one_size, app_size, strOfNums_size, show (⟨#[0, 0]⟩ : ByteArray).size = 2 from rfl]; omega), h00, ho, ← sn_append, ← sn_append]
    rfl
   ·rw [if_neg h4, if_neg h4]; rfl
def noB (s : ByteArray) : Bool := s.toList == ([] : List UInt8)
def goodV (a b : Int) (s : ByteArray) : Bool :=
 if a = 1 then (decide (b = 0) && noB s) else if a = 2 then (decide (0 ≤ b ∧ b ≤ 1) && noB s) else if a = 3 then (decide (-1000000000 ≤ b ∧ b ≤ 1000000000) && noB s) else if a = 4 then (decide (b = 0) && decide ((s.size : Int) ≤ 12)) else false
theorem if_and (p : Prop) [Decidable p] (q : Bool) : (if p then some q else some false) = some (decide p && q) := by
 by_cases h : p
 ·rw [if_pos h, decide_eq_true h]; rfl
 ·rw [if_neg h, decide_eq_false h]; rfl
theorem if_andB (p q : Bool) : (if p = true then some q else some false) = some (p && q) := by cases p <;> rfl
theorem goodVS (a b : Int) (s : ByteArray) : spec_GoodValue.f a b s = some (goodV a b s) := by
 unfold spec_GoodValue.f goodV noB
 rw [inS, inS]
 simp only [Option.bind_some]
 rw [if_and, if_andB, if_andB, if_and, apply_ite some, apply_ite some, apply_ite some, apply_ite some]
theorem goodVI (a b : Int) (s : ByteArray) : impl_GoodValue.f a b s = some (goodV a b s) := by
 unfold impl_GoodValue.f goodV noB
 rw [inI, inI]
 simp only [Option.bind_some]
 rw [if_and, if_andB, if_andB, if_and, apply_ite some, apply_ite some, apply_ite some, apply_ite some]
theorem noB_size {s : ByteArray} (h : noB s = true) : s.size = 0 := by
 have := beq_iff_eq.1 h
 rw [← size_toList, this]; rfl
theorem goodV_size {a b : Int} {s : ByteArray} (h : goodV a b s = true) : s.size ≤ 12 := by
 unfold goodV at h
 split at h
 ·simp only [Bool.and_eq_true] at h; have := noB_size h.2; omega
 ·split at h
  ·simp only [Bool.and_eq_true] at h; have := noB_size h.2; omega
  ·split at h
   ·simp only [Bool.and_eq_true] at h; have := noB_size h.2; omega
   ·split at h
    ·simp only [Bool.and_eq_true, decide_eq_true_eq] at h; omega
    ·cases h
theorem valS_size {a b : Int} {s : ByteArray} (h : goodV a b s = true) : (strOfNums (valI a b s)).size ≤ 40 := by
 rw [strOfNums_size]
 have := valI_len a b s
 have := goodV_size h
 omega
def valueBytesM (a b : Int) (s : ByteArray) : ByteArray × Bool := if goodV a b s = true then (strOfNums (valI a b s), true) else (⟨#[]⟩, false)
theorem valueBytesS (a b : Int) (s : ByteArray) : Ev (fun k => spec_ValueBytes.f k a b s) (valueBytesM a b s) := by
 unfold valueBytesM
 cases h : goodV a b s with
 | true => exact ev_const (goodVS a b s) (ev_pos h (ev_bind (bytesVS a b s (by have := goodV_size h; omega)) (Ev.now _)))
 | false => exact ev_const (goodVS a b s) (ev_neg (by simp [h]) (Ev.now _))
theorem valueBytesI (a b : Int) (s : ByteArray) : impl_ValueBytes.f a b s = some (valueBytesM a b s) := by
 unfold valueBytesM impl_ValueBytes.f
 rw [goodVI]
 simp only [Option.bind_some]
 cases h : goodV a b s with
 | true => rw [if_pos rfl, bytesVI a b s (by have := goodV_size h; omega)]; rfl
 | false => rfl
theorem rdI_at (l : List S27) (i : Nat) (h : i < l.length) : rd_T27 l (i : Int) = l[i] := by
 simp [rd_T27, List.getD_eq_getElem?_getD, List.getElem?_eq_getElem h]
def goodX (x : S27) : Bool := goodV x.f0 x.f1 x.f2
def rowOk (l : List S27) : Bool := decide ((l.length : Int) ≤ 6) && l.all goodX
theorem all_ix (l : List S27) : l.all goodX = true ↔ ∀ i (h : i < l.length), goodX l[i] = true := by
 rw [List.all_eq_true]
 constructor
 ·intro h i hi; exact h _ (List.getElem_mem hi)
 ·intro h x hx
  obtain ⟨i, hi, e⟩ := List.getElem_of_mem hx
  rw [← e]; exact h i hi
theorem rowOkS (l : List S27) (hl : l.length ≤ 2000000) : Ev (fun k => spec_l4Row.f k l) (rowOk l) := by
 have st : ∀ {r : Bool} (i : Nat) (h : i < l.length), Ev (fun k => if goodX l[i] = true then spec_l4Row.l0 k l l (l.length : Int) ((i + 1 : Nat) : Int) else some false) r → Ev (fun k => spec_l4Row.l0 k l l (l.length : Int) (i : Int)) r := by
  intro r i h hr
  refine Ev.step (fun k => ?_) hr
  simp only [spec_l4Row.l0]
  rw [if_pos (by omega), if_pos (by omega), if_pos (by omega), rdI_at l i h, goodVS, w64 (x := (i : Int) + 1) (by omega) (by omega)]
  rfl
 have rn : ∀ (r : Bool) i, i < l.length → (∀ h : i < l.length, goodX l[i] = true) → Ev (fun k => spec_l4Row.l0 k l l (l.length : Int) ((i + 1 : Nat) : Int)) r → Ev (fun k => spec_l4Row.l0 k l l (l.length : Int) (i : Int)) r := fun r i hi hq hr => st i hi (ev_pos (hq hi) hr)
 unfold rowOk
 by_cases hA : ∀ i, i < l.length → ∀ h : i < l.length, goodX l[i] = true
 ·rw [(all_ix l).2 (fun i h => hA i h h), Bool.and_true]
  exact loop_yes l.length (fun i k => spec_l4Row.l0 k l l (l.length : Int) (i : Int)) (fun i => ∀ h : i < l.length, goodX l[i] = true) _ rn (Ev.step (f := fun _ => some (decide ((l.length : Int) ≤ 6))) (fun k => by simp only [spec_l4Row.l0]; rw [if_neg (by omega)]) (Ev.now _)) hA
 ·have e : l.all goodX = false := by
   cases h : l.all goodX with
   | false => rfl
   | true => exact absurd (fun i hi h' => (all_ix l).1 h i h') hA
  rw [e, Bool.and_false]
  exact loop_no l.length (fun i k => spec_l4Row.l0 k l l (l.length : Int) (i : Int)) (fun i => ∀ h : i < l.length, goodX l[i] = true) false rn (fun i hi hq => st i hi (ev_neg (fun h => hq (fun _ => h)) (Ev.now _))) hA
theorem rowOk_facts {l : List S27} (h : rowOk l = true) : l.length ≤ 6 ∧ ∀ i (hi : i < l.length), goodX l[i] = true := by
 unfold rowOk at h
 simp only [Bool.and_eq_true, decide_eq_true_eq] at h
 exact ⟨by omega, (all_ix l).1 h.2⟩
abbrev vb (x : S27) : ByteArray := strOfNums (valI x.f0 x.f1 x.f2)
def rowV : ByteArray → List S27 → ByteArray
 | a, [] => a
 | a, x :: l => rowV (a ++ vb x) l
theorem rowV_size (l : List S27) : ∀ a, (∀ x ∈ l, goodX x = true) → (rowV a l).size ≤ a.size + 40 * l.length := by
 induction l with
 | nil => intro a _; simp [rowV]
 | cons x l ih =>
  intro a h
  have h1 := ih (a ++ vb x) (fun y hy => h y (List.mem_cons_of_mem _ hy))
  have h2 : (vb x).size ≤ 40 := valS_size (h x List.mem_cons_self)
  rw [app_size] at h1
  simp only [rowV, List.length_cons]
  omega
theorem rowLoops (l : List S27) (h : rowOk l = true) : ∀ (d i : Nat) (a : ByteArray), i + d = l.length → a.size ≤ 40 * i → Ev (fun k => spec_l4RowBytes.l0 k a l (l.length : Int) (i : Int)) (rowV a (l.drop i)) ∧ Ev (fun k => impl_RowBytes.l0 k a l (l.length : Int) (i : Int)) (rowV a (l.drop i), true) := by
 obtain ⟨hl, hg⟩ := rowOk_facts h
 intro d
 induction d with
 | zero =>
  intro i a hi ha
  rw [List.drop_eq_nil_of_le (by omega)]
  exact ⟨Ev.step (f := fun _ => some a) (fun k => by simp only [spec_l4RowBytes.l0]; rw [if_neg (by omega)]) (Ev.now _), Ev.step (f := fun _ => some (a, true)) (fun k => by simp only [impl_RowBytes.l0]; rw [if_neg (by omega)]) (Ev.now _)⟩
 | succ d ih =>
  intro i a hi ha
  have hlt : i < l.length := by omega
  have hz : (vb l[i]).size ≤ 40 := valS_size (hg i hlt)
  have hs := goodV_size (hg i hlt)
  rw [List.drop_eq_getElem_cons hlt, rowV]
  obtain ⟨h1, h2⟩ := ih (i + 1) (a ++ vb l[i]) (by omega) (by rw [app_size]; omega)
  refine ⟨?_, ?_⟩
  ·refine Ev.step (f := fun k => (spec_l4Bytes.f k l[i].f0 l[i].f1 l[i].f2).bind fun t => if a.size + t.size ≤ 9223372036854775807 then spec_l4RowBytes.l0 k (a ++ t) l (l.length : Int) ((i + 1 : Nat) : Int) else none) (fun k => ?_) (ev_bind (bytesVS l[i].f0 l[i].f1 l[i].f2 (by omega)) (ev_pos (by show a.size + (vb l[i]).size ≤ _; omega) h1))
   simp only [spec_l4RowBytes.l0]
   rw [if_pos (by omega), if_pos (by omega), if_pos (by omega), rdI_at l i hlt, w64 (x := (i : Int) + 1) (by omega) (by omega)]
   rfl
  ·refine Ev.step (f := fun k => impl_RowBytes.l0 k (a ++ vb l[i]) l (l.length : Int) ((i + 1 : Nat) : Int)) (fun k => ?_) h2
   simp only [impl_RowBytes.l0]
   rw [if_pos (by omega), if_pos (by omega), if_pos (by omega), rdI_at l i hlt, bytesVI l[i].f0 l[i].f1 l[i].f2 (by omega), w64 (x := (i : Int) + 1) (by omega) (by omega)]
   simp only [Option.bind_some]
   rw [if_pos (by show a.size + (vb l[i]).size ≤ _; omega)]
   rfl
def rowBytesM (l : List S27) : ByteArray × Bool := if rowOk l = true then (rowV ⟨#[]⟩ l, true) else (⟨#[]⟩, false)
theorem rowBytesS (l : List S27) (hl : l.length ≤ 2000000) : Ev (fun k => spec_RowBytes.f k l) (rowBytesM l) := by
 have h1 := rowOkS l hl
 unfold rowBytesM
 cases h : rowOk l with
 | true =>
  rw [h] at h1
  exact ev_bind h1 (ev_pos rfl (ev_bind (rowLoops l h l.length 0 ⟨#[]⟩ (by omega) (by decide)).1 (Ev.now _)))
 | false =>
  rw [h] at h1
  exact ev_bind h1 (ev_neg (by simp) (Ev.now _))
theorem rowBytes_size (l : List S27) : (rowBytesM l).1.size ≤ 300 := by
 unfold rowBytesM
 split
 ·rename_i h
  obtain ⟨h1, h2⟩ := rowOk_facts h
  have := rowV_size l ⟨#[]⟩ (fun x hx => by
   obtain ⟨i, hi, e⟩ := List.getElem_of_mem hx
   rw [← e]; exact h2 i hi)
  have z : (⟨#[]⟩ : ByteArray).size = 0 := rfl
  dsimp only
  omega
 ·decide
end Go.Proofs.YthhkkhnjkoacnaaDoor.QV
end
section
namespace Go.Proofs.YthhkkhnjkoacnaaDoor.QE
open Go.RowKit Go.Proofs.YthhkkhnjkoacnaaDoorW.PrintWords Go.Proofs.YthhkkhnjkoacnaaDoorW.PrintLast Go.Proofs.YthhkkhnjkoacnaaDoorW.PrintMore Go.Proofs.YthhkkhnjkoacnaaDoor.PB Go.Proofs.YthhkkhnjkoacnaaDoor.PD Go.Proofs.YthhkkhnjkoacnaaDoor.QR Go.Proofs.YthhkkhnjkoacnaaDoor.QV
set_option linter.unusedVariables false
def sgn (a b : Int) : Int := if a < b then -1 else if a > b then 1 else 0
theorem sgn_neg (a b : Int) : sgn b a = -sgn a b := by unfold sgn; split <;> split <;> (try split) <;> omega
theorem sgn_zero {a b : Int} : sgn a b = 0 ↔ a = b := by unfold sgn; split <;> (try split) <;> omega
def cmpL : List UInt8 → List UInt8 → Int
 | [], [] => 0
 | [], _ :: _ => -1
 | _ :: _, [] => 1
 | a :: x, b :: y => if a < b then -1 else if b < a then 1 else cmpL x y
theorem u8_tri {a b : UInt8} (h1 : ¬ a < b) (h2 : ¬ b < a) : a = b := by
 rw [UInt8.lt_iff_toNat_lt] at h1 h2
 exact UInt8.toNat_inj.1 (by omega)
theorem u8_asym {a b : UInt8} (h1 : a < b) : ¬ b < a := by
 rw [UInt8.lt_iff_toNat_lt] at h1 ⊢; omega
theorem u8_irr (a : UInt8) : ¬ a < a := by rw [UInt8.lt_iff_toNat_lt]; omega
theorem cmpL_same (x : List UInt8) : cmpL x x = 0 := by
 induction x with
 | nil => rfl
 | cons a x ih => unfold cmpL; rw [if_neg (u8_irr a), if_neg (u8_irr a), ih]
theorem cmpL_zero : ∀ {x y : List UInt8}, cmpL x y = 0 → x = y := by
 intro x
 induction x with
 | nil => intro y h; cases y with
  | nil => rfl
  | cons b y => simp [cmpL] at h
 | cons a x ih => intro y h; cases y with
  | nil => simp [cmpL] at h
  | cons b y =>
   unfold cmpL at h
   split at h
   ·omega
   ·split at h
    ·omega
    ·rename_i h1 h2
     rw [u8_tri h1 h2, ih h]
theorem cmpL_neg : ∀ (x y : List UInt8), cmpL y x = -cmpL x y := by
 intro x
 induction x with
 | nil => intro y; cases y <;> rfl
 | cons a x ih => intro y; cases y with
  | nil => rfl
  | cons b y =>
   unfold cmpL
   by_cases h1 : a < b
   ·rw [if_pos h1, if_neg (u8_asym h1), if_pos h1]; rfl
   ·by_cases h2 : b < a
    ·rw [if_pos h2, if_neg h1, if_pos h2]
    ·rw [if_neg h1, if_neg h2, if_neg h1, if_neg h2, ih]
theorem cmpL_less : ∀ (x y : List UInt8), (if Op.bytesLess x y = true then (-1 : Int) else if Op.bytesLess y x = true then 1 else 0) = cmpL x y := by
 intro x
 induction x with
 | nil => intro y; cases y with
  | nil => simp [Op.bytesLess, cmpL]
  | cons b y => simp [Op.bytesLess, cmpL]
 | cons a x ih => intro y; cases y with
  | nil => simp [Op.bytesLess, cmpL]
  | cons b y =>
   unfold cmpL
   rw [← ih y]
   by_cases h1 : a < b
   ·rw [if_pos h1, if_pos (by simp [Op.bytesLess, h1])]
   ·by_cases h2 : b < a
    ·have : a ≠ b := fun e => by subst e; exact u8_irr a h2
     rw [if_neg (by simp [Op.bytesLess, h1, this]), if_pos (by simp [Op.bytesLess, h2]), if_neg h1, if_pos h2]
    ·have := u8_tri h1 h2
     subst this
     simp only [Op.bytesLess, if_neg h1, decide_eq_false h1, Bool.false_or, beq_self_eq_true, Bool.true_and]
theorem cmpL_lib : ∀ (x y : List UInt8), Go.Lib.compareBytes x y = cmpL x y := by
 intro x
 induction x with
 | nil => intro y; cases y <;> rfl
 | cons a x ih => intro y; cases y with
  | nil => rfl
  | cons b y => unfold cmpL Go.Lib.compareBytes; rw [ih]
theorem cmpL_cons (a : UInt8) (x y : List UInt8) : cmpL (a :: x) (a :: y) = cmpL x y := by
 conv => lhs; unfold cmpL
 rw [if_neg (u8_irr a), if_neg (u8_irr a)]
abbrev esc (l : List UInt8) : List UInt8 := rep 0 [0, 255] l
theorem esc_zero (l : List UInt8) : esc (0 :: l) = 0 :: 255 :: esc l := by unfold esc; rw [rep_cons, if_pos rfl]; rfl
theorem esc_other {c : UInt8} (h : c ≠ 0) (l : List UInt8) : esc (c :: l) = c :: esc l := by unfold esc; rw [rep_cons, if_neg h]; rfl
theorem zero_lt {c : UInt8} (h : c ≠ 0) : (0 : UInt8) < c := by
 rw [UInt8.lt_iff_toNat_lt]
 have : c.toNat ≠ 0 := fun e => h (UInt8.toNat_inj.1 e)
 show 0 < c.toNat
 omega
theorem cmpL_esc : ∀ (x y : List UInt8), cmpL (esc x ++ [0, 0]) (esc y ++ [0, 0]) = cmpL x y := by
 have n : ∀ (c : UInt8) (y : List UInt8), cmpL [0, 0] (esc (c :: y) ++ [0, 0]) = -1 := by
  intro c y
  by_cases h : c = 0
  ·subst h; rw [esc_zero, List.cons_append, cmpL_cons, List.cons_append]; rfl
  ·rw [esc_other h, List.cons_append]; unfold cmpL; rw [if_pos (zero_lt h)]
 intro x
 induction x with
 | nil => intro y; cases y with
  | nil => rfl
  | cons c y => exact (n c y).trans rfl
 | cons a x ih => intro y; cases y with
  | nil =>
   have h := cmpL_neg [0, 0] (esc (a :: x) ++ [0, 0])
   rw [n] at h
   exact h
  | cons b y =>
   by_cases e : a = b
   ·subst e
    rw [cmpL_cons, ← ih y]
    by_cases h : a = 0
    ·subst h; rw [esc_zero, esc_zero, List.cons_append, List.cons_append, List.cons_append, List.cons_append, cmpL_cons, cmpL_cons]
    ·rw [esc_other h, esc_other h, List.cons_append, List.cons_append, cmpL_cons]
   ·have key : ∀ (p q : List UInt8), cmpL (a :: p) (b :: q) = cmpL (a :: x) (b :: y) := by
     intro p q
     unfold cmpL
     by_cases h1 : a < b
     ·rw [if_pos h1, if_pos h1]
     ·have h2 : b < a := Decidable.byContradiction fun h2 => e (u8_tri h1 h2)
      rw [if_neg h1, if_neg h1, if_pos h2, if_pos h2]
    by_cases h : a = 0
    ·subst h
     have hb : b ≠ 0 := fun h => e h.symm
     rw [esc_zero, esc_other hb, List.cons_append, List.cons_append]
     exact key _ _
    ·by_cases hb : b = 0
     ·subst hb
      rw [esc_zero, esc_other h, List.cons_append, List.cons_append]
      exact key _ _
     ·rw [esc_other h, esc_other hb, List.cons_append, List.cons_append]
      exact key _ _
def readT : List UInt8 → Option (List UInt8 × Nat)
 | [] => none
 | [c] => none
 | c :: d :: r => if c ≠ 0 then (readT (d :: r)).map fun p => (c :: p.1, p.2 + 1) else if d = 0 then some ([], 2) else if d = 255 then (readT r).map fun p => (0 :: p.1, p.2 + 2) else none
theorem readT_one {c : UInt8} (h : c ≠ 0) (l : List UInt8) : readT (c :: l) = (readT l).map fun p => (c :: p.1, p.2 + 1) := by
 cases l with
 | nil => rfl
 | cons d r => rw [readT, if_pos h]
theorem readT_esc (s : List UInt8) : ∀ t : List UInt8, readT (esc t ++ 0 :: 0 :: s) = some (t, (esc t).length + 2) := by
 intro t
 induction t with
 | nil => rfl
 | cons c t ih =>
  by_cases h : c = 0
  ·subst h
   rw [esc_zero, List.cons_append, List.cons_append, readT, if_neg (by simp), if_neg (by decide), if_pos rfl, ih]
   rfl
  ·rw [esc_other h, List.cons_append, readT_one h, ih]
   rfl
theorem readT_back : ∀ (n : Nat) (r t : List UInt8) (m : Nat), r.length ≤ n → readT r = some (t, m) → ∃ s, r = esc t ++ 0 :: 0 :: s ∧ m = (esc t).length + 2 := by
 intro n
 induction n with
 | zero => intro r t m hr h; cases r with
  | nil => cases h
  | cons c r => simp at hr
 | succ n ih =>
  intro r t m hr h
  match r, hr, h with
  | [], _, h => cases h
  | [c], _, h => cases h
  | c :: d :: r, hr, h =>
   simp only [List.length_cons] at hr
   rw [readT] at h
   by_cases hc : c = 0
   ·rw [if_neg (by simp [hc])] at h
    by_cases hd : d = 0
    ·rw [if_pos hd] at h
     injection h with h; injection h with h1 h2
     subst h1 h2 hc hd
     exact ⟨r, rfl, rfl⟩
    ·rw [if_neg hd] at h
     by_cases hd2 : d = 255
     ·rw [if_pos hd2] at h
      obtain ⟨⟨t1, m1⟩, h1, h2⟩ := Option.map_eq_some_iff.1 h
      injection h2 with h2 h3
      obtain ⟨s, h4, h5⟩ := ih r t1 m1 (by omega) h1
      subst h2 h3 hc hd2 h4 h5
      exact ⟨s, by rw [esc_zero]; rfl, by rw [esc_zero]; rfl⟩
     ·rw [if_neg hd2] at h; cases h
   ·rw [if_pos hc] at h
    obtain ⟨⟨t1, m1⟩, h1, h2⟩ := Option.map_eq_some_iff.1 h
    injection h2 with h2 h3
    obtain ⟨s, h4, h5⟩ := ih (d :: r) t1 m1 (by simp only [List.length_cons]; omega) h1
    subst h2 h3 h5
    exact ⟨s, by rw [esc_other hc, h4]; rfl, by rw [esc_other hc]; rfl⟩
def cand : List UInt8 → List UInt8
 | [] => []
 | [c] => []
 | c :: d :: r => if c = 0 then (if d = 0 then [] else 0 :: cand r) else c :: cand (d :: r)
theorem cand_one {c : UInt8} (h : c ≠ 0) {l : List UInt8} (hl : l ≠ []) : cand (c :: l) = c :: cand l := by
 cases l with
 | nil => exact absurd rfl hl
 | cons d r => rw [cand, if_neg h]
theorem cand_esc (s : List UInt8) : ∀ t : List UInt8, cand (esc t ++ 0 :: 0 :: s) = t := by
 intro t
 induction t with
 | nil => rfl
 | cons c t ih =>
  by_cases h : c = 0
  ·subst h
   rw [esc_zero, List.cons_append, List.cons_append, cand, if_pos rfl, if_neg (by decide), ih]
  ·rw [esc_other h, List.cons_append, cand_one h (by simp), ih]
def be4 (n : Int) : List UInt8 := [UInt8.ofNat (n / 16777216 % 256).toNat, UInt8.ofNat (n / 65536 % 256).toNat, UInt8.ofNat (n / 256 % 256).toNat, UInt8.ofNat (n % 256).toNat]
theorem ofNat_lt {p q : Nat} (hp : p < 256) (hq : q < 256) : UInt8.ofNat p < UInt8.ofNat q ↔ p < q := by
 rw [UInt8.lt_iff_toNat_lt, UInt8.toNat_ofNat', UInt8.toNat_ofNat', Nat.mod_eq_of_lt hp, Nat.mod_eq_of_lt hq]
theorem cmpL_small {p q : Nat} (hp : p < 256) (hq : q < 256) (x y : List UInt8) : cmpL (UInt8.ofNat p :: x) (UInt8.ofNat q :: y) = if p < q then -1 else if q < p then 1 else cmpL x y := by
 conv => lhs; unfold cmpL
 simp only [ofNat_lt hp hq, ofNat_lt hq hp]
set_option maxHeartbeats 4000000 in
theorem cmpL_be4 {x y : Int} (h0 : 0 ≤ x) (h1 : x < 4294967296) (h2 : 0 ≤ y) (h3 : y < 4294967296) : cmpL (be4 x) (be4 y) = sgn x y := by
 unfold be4
 rw [cmpL_small (by omega) (by omega), cmpL_small (by omega) (by omega), cmpL_small (by omega) (by omega), cmpL_small (by omega) (by omega), show cmpL [] [] = 0 from rfl]
 unfold sgn
 repeat' split
 all_goals omega
abbrev bts (a b : Int) (s : ByteArray) : List UInt8 := (strOfNums (valI a b s)).toList
theorem bts1 (b : Int) (s : ByteArray) : bts 1 b s = [1] := by unfold bts; rw [sn_list]; rfl
theorem bts2 (b : Int) (s : ByteArray) : bts 2 b s = [2, UInt8.ofNat (b % 256).toNat] := by unfold bts; rw [sn_list]; rfl
theorem bts3 (b : Int) (s : ByteArray) : bts 3 b s = 3 :: be4 (wrap64 (b + 1000000000)) := by unfold bts; rw [sn_list]; rfl
theorem bts4 (b : Int) (s : ByteArray) : bts 4 b s = 4 :: (esc s.toList ++ [0, 0]) := by
 have h := sn_ints (esc s.toList)
 rw [sn_list] at h
 unfold bts
 rw [sn_list]
 unfold valI
 rw [if_neg (by decide), if_neg (by decide), if_pos rfl, List.map_cons, List.map_append]
 unfold tint
 rw [h]
 rfl
theorem nil_list : (⟨#[]⟩ : ByteArray).toList = [] := by rw [ByteArray.toList_eq]
theorem noB_nil : noB ⟨#[]⟩ = true := by unfold noB; rw [nil_list]; rfl
theorem noB_eq {s : ByteArray} (h : noB s = true) : s = ⟨#[]⟩ := ba_ext (by rw [beq_iff_eq.1 h, nil_list])
theorem good_cases {a b : Int} {s : ByteArray} (h : goodV a b s = true) : (a = 1 ∧ b = 0 ∧ s = ⟨#[]⟩) ∨ (a = 2 ∧ 0 ≤ b ∧ b ≤ 1 ∧ s = ⟨#[]⟩) ∨ (a = 3 ∧ -1000000000 ≤ b ∧ b ≤ 1000000000 ∧ s = ⟨#[]⟩) ∨ (a = 4 ∧ b = 0 ∧ s.size ≤ 12) := by
 unfold goodV at h
 split at h
 ·simp only [Bool.and_eq_true, decide_eq_true_eq] at h; exact .inl ⟨by assumption, h.1, noB_eq h.2⟩
 ·split at h
  ·simp only [Bool.and_eq_true, decide_eq_true_eq] at h; exact .inr (.inl ⟨by assumption, h.1.1, h.1.2, noB_eq h.2⟩)
  ·split at h
   ·simp only [Bool.and_eq_true, decide_eq_true_eq] at h; exact .inr (.inr (.inl ⟨by assumption, h.1.1, h.1.2, noB_eq h.2⟩))
   ·split at h
    ·simp only [Bool.and_eq_true, decide_eq_true_eq] at h; exact .inr (.inr (.inr ⟨by assumption, h.1, by omega⟩))
    ·cases h
theorem good1 : goodV 1 0 ⟨#[]⟩ = true := by unfold goodV; rw [if_pos rfl, noB_nil]; rfl
theorem good2 {b : Int} (h0 : 0 ≤ b) : goodV 2 b ⟨#[]⟩ = decide (b ≤ 1) := by
 unfold goodV
 rw [if_neg (by decide), if_pos rfl, noB_nil, Bool.and_true]
 by_cases h : b ≤ 1
 ·rw [decide_eq_true h, decide_eq_true ⟨h0, h⟩]
 ·rw [decide_eq_false h, decide_eq_false (fun x => h x.2)]
theorem good3 (b : Int) : goodV 3 b ⟨#[]⟩ = decide (-1000000000 ≤ b ∧ b ≤ 1000000000) := by
 unfold goodV
 rw [if_neg (by decide), if_neg (by decide), if_pos rfl, noB_nil, Bool.and_true]
theorem good4 (s : ByteArray) : goodV 4 0 s = decide (s.size ≤ 12) := by
 unfold goodV
 rw [if_neg (by decide), if_neg (by decide), if_neg (by decide), if_pos rfl]
 by_cases h : s.size ≤ 12
 ·rw [decide_eq_true h, decide_eq_true (by omega : (s.size : Int) ≤ 12)]; rfl
 ·rw [decide_eq_false h, decide_eq_false (by omega : ¬ (s.size : Int) ≤ 12)]; rfl
theorem good_no {a : Int} (h1 : a ≠ 1) (h2 : a ≠ 2) (h3 : a ≠ 3) (h4 : a ≠ 4) (b : Int) (s : ByteArray) : goodV a b s = false := by
 unfold goodV; rw [if_neg h1, if_neg h2, if_neg h3, if_neg h4]
def cmpV (a b : Int) (s : ByteArray) (a' b' : Int) (s' : ByteArray) : Int := if a = a' then (if b = b' then cmpL s.toList s'.toList else sgn b b') else sgn a a'
theorem cmpV_neg (a b : Int) (s : ByteArray) (a' b' : Int) (s' : ByteArray) : cmpV a' b' s' a b s = -cmpV a b s a' b' s' := by
 unfold cmpV
 by_cases h : a = a'
 ·subst h
  rw [if_pos rfl, if_pos rfl]
  by_cases h : b = b'
  ·subst h; rw [if_pos rfl, if_pos rfl, cmpL_neg]
  ·rw [if_neg h, if_neg (fun e => h e.symm), sgn_neg]
 ·rw [if_neg h, if_neg (fun e => h e.symm), sgn_neg]
theorem cmpV_zero {a b : Int} {s : ByteArray} {a' b' : Int} {s' : ByteArray} : cmpV a b s a' b' s' = 0 ↔ a = a' ∧ b = b' ∧ s = s' := by
 unfold cmpV
 constructor
 ·intro h
  split at h
  ·split at h
   ·exact ⟨by assumption, by assumption, ba_ext (cmpL_zero h)⟩
   ·exact absurd (sgn_zero.1 h) (by assumption)
  ·exact absurd (sgn_zero.1 h) (by assumption)
 ·rintro ⟨rfl, rfl, rfl⟩
  rw [if_pos rfl, if_pos rfl, cmpL_same]
theorem order {a b : Int} {s : ByteArray} {a' b' : Int} {s' : ByteArray} (h : goodV a b s = true) (h' : goodV a' b' s' = true) : cmpL (bts a b s) (bts a' b' s') = cmpV a b s a' b' s' := by
 unfold cmpV
 rcases good_cases h with ⟨rfl, rfl, rfl⟩ | ⟨rfl, h0, h1, rfl⟩ | ⟨rfl, h0, h1, rfl⟩ | ⟨rfl, rfl, h0⟩ <;> rcases good_cases h' with ⟨rfl, rfl, rfl⟩ | ⟨rfl, h0', h1', rfl⟩ | ⟨rfl, h0', h1', rfl⟩ | ⟨rfl, rfl, h0'⟩
 all_goals simp only [bts1, bts2, bts3, bts4]
 all_goals first
  | (rw [if_neg (by decide)]; rfl)
  | skip
 ·rw [if_pos trivial, if_pos trivial, cmpL_same, cmpL_same]
 ·rw [if_pos trivial, cmpL_cons, cmpL_small (by omega) (by omega)]
  rw [cmpL_same, cmpL_same]
  unfold sgn
  repeat' split
  all_goals omega
 ·rw [if_pos trivial, cmpL_cons, w64 (by omega) (by omega), w64 (by omega) (by omega), cmpL_be4 (by omega) (by omega) (by omega) (by omega)]
  by_cases e : b = b'
  ·rw [if_pos e, cmpL_same, sgn_zero]; omega
  ·rw [if_neg e]; unfold sgn; repeat' split
   all_goals omega
 ·rw [if_pos trivial, if_pos trivial, cmpL_cons, cmpL_esc]
end Go.Proofs.YthhkkhnjkoacnaaDoor.QE
end
section
namespace Go.Proofs.YthhkkhnjkoacnaaDoor.QF
open Go.RowKit Go.Proofs.YthhkkhnjkoacnaaDoorW.PrintWords Go.Proofs.YthhkkhnjkoacnaaDoorW.PrintLast Go.Proofs.YthhkkhnjkoacnaaDoorW.PrintMore Go.Proofs.YthhkkhnjkoacnaaDoor.PB Go.Proofs.YthhkkhnjkoacnaaDoor.PD Go.Proofs.YthhkkhnjkoacnaaDoor.PT Go.Proofs.YthhkkhnjkoacnaaDoor.PW Go.Proofs.YthhkkhnjkoacnaaDoor.QR Go.Proofs.YthhkkhnjkoacnaaDoor.QV Go.Proofs.YthhkkhnjkoacnaaDoor.QE Go.Proofs.YthhkkhnjkoacnaaDoor.PA
set_option linter.unusedVariables false
def num4 (p q u v : UInt8) : Int := (p.toNat : Int) * 16777216 + (q.toNat : Int) * 65536 + (u.toNat : Int) * 256 + (v.toNat : Int)
def readV : List UInt8 → Option (Int × Int × List UInt8 × Nat)
 | [] => none
 | k :: r =>
  if k = 2 then (match r with
   | [] => none
   | b :: _ => if b.toNat ≤ 1 then some (2, (b.toNat : Int), [], 2) else none)
  else if k = 3 then (match r with
   | p :: q :: u :: v :: _ => if num4 p q u v ≤ 2000000000 then some (3, num4 p q u v - 1000000000, [], 5) else none
   | _ => none)
  else if k = 4 then (match readT r with
   | some (t, n) => if t.length ≤ 12 then some (4, 0, t, 1 + n) else none
   | none => none)
  else if k = 1 then some (1, 0, [], 1) else none
theorem ofNat_toNat_int (b : UInt8) : UInt8.ofNat ((b.toNat : Int) % 256).toNat = b := by
 have := UInt8.toNat_lt b
 rw [Int.emod_eq_of_lt (by omega) (by omega)]
 simp
theorem num4_lt (p q u v : UInt8) : 0 ≤ num4 p q u v ∧ num4 p q u v < 4294967296 := by
 have := UInt8.toNat_lt p; have := UInt8.toNat_lt q; have := UInt8.toNat_lt u; have := UInt8.toNat_lt v
 unfold num4; omega
theorem be4_num4 (p q u v : UInt8) : be4 (num4 p q u v) = [p, q, u, v] := by
 have h1 := UInt8.toNat_lt p; have h2 := UInt8.toNat_lt q; have h3 := UInt8.toNat_lt u; have h4 := UInt8.toNat_lt v
 unfold be4 num4
 have e1 : ((p.toNat : Int) * 16777216 + (q.toNat : Int) * 65536 + (u.toNat : Int) * 256 + (v.toNat : Int)) / 16777216 % 256 = (p.toNat : Int) % 256 := by omega
 have e2 : ((p.toNat : Int) * 16777216 + (q.toNat : Int) * 65536 + (u.toNat : Int) * 256 + (v.toNat : Int)) / 65536 % 256 = (q.toNat : Int) % 256 := by omega
 have e3 : ((p.toNat : Int) * 16777216 + (q.toNat : Int) * 65536 + (u.toNat : Int) * 256 + (v.toNat : Int)) / 256 % 256 = (u.toNat : Int) % 256 := by omega
 have e4 : ((p.toNat : Int) * 16777216 + (q.toNat : Int) * 65536 + (u.toNat : Int) * 256 + (v.toNat : Int)) % 256 = (v.toNat : Int) % 256 := by omega
 rw [e1, e2, e3, e4, ofNat_toNat_int, ofNat_toNat_int, ofNat_toNat_int, ofNat_toNat_int]
theorem num4_be4 {n : Int} (h0 : 0 ≤ n) (h1 : n < 4294967296) : num4 (UInt8.ofNat (n / 16777216 % 256).toNat) (UInt8.ofNat (n / 65536 % 256).toNat) (UInt8.ofNat (n / 256 % 256).toNat) (UInt8.ofNat (n % 256).toNat) = n := by
 unfold num4
 rw [UInt8.toNat_ofNat', UInt8.toNat_ofNat', UInt8.toNat_ofNat', UInt8.toNat_ofNat', Nat.mod_eq_of_lt (by omega), Nat.mod_eq_of_lt (by omega), Nat.mod_eq_of_lt (by omega), Nat.mod_eq_of_lt (by omega)]
 omega
def str (l : List UInt8) : ByteArray := strOfNums (ints l)
theorem str_list (l : List UInt8) : (str l).toList = l := sn_ints l
theorem str_of (s : ByteArray) : str s.toList = s := ba_ext (str_list _)
theorem str_size (l : List UInt8) : (str l).size = l.length := by unfold str; rw [strOfNums_size]; unfold ints; rw [List.length_map]
theorem readV_bts {a b : Int} {s : ByteArray} (h : goodV a b s = true) (more : List UInt8) : readV (bts a b s ++ more) = some (a, b, s.toList, (bts a b s).length) := by
 rcases good_cases h with ⟨rfl, rfl, rfl⟩ | ⟨rfl, h0, h1, rfl⟩ | ⟨rfl, h0, h1, rfl⟩ | ⟨rfl, rfl, h0⟩
 ·rw [bts1, nil_list]; rfl
 ·rw [bts2, nil_list]
  have e : (UInt8.ofNat (b % 256).toNat).toNat = b.toNat := by rw [UInt8.toNat_ofNat', Nat.mod_eq_of_lt (by omega)]; omega
  simp only [List.cons_append, readV]
  rw [if_pos trivial, if_pos (by rw [e]; omega), e, Int.toNat_of_nonneg h0]
  rfl
 ·rw [bts3, nil_list, w64 (by omega) (by omega)]
  unfold be4
  simp only [List.cons_append, readV]
  rw [if_neg (by decide), if_pos trivial, num4_be4 (by omega) (by omega), if_pos (by omega), show b + 1000000000 - 1000000000 = b by omega]
  rfl
 ·rw [bts4]
  have e : 4 :: (esc s.toList ++ [0, 0]) ++ more = 4 :: (esc s.toList ++ 0 :: 0 :: more) := by simp
  rw [e]
  simp only [readV]
  rw [if_neg (by decide), if_neg (by decide), if_pos trivial, readT_esc]
  dsimp only
  rw [if_pos (by rw [size_toList]; exact h0)]
  simp only [List.length_cons, List.length_append, List.length_nil]
  congr 4
  omega
theorem readV_back {l : List UInt8} {a b : Int} {t : List UInt8} {n : Nat} (h : readV l = some (a, b, t, n)) : goodV a b (str t) = true ∧ ∃ more, l = bts a b (str t) ++ more ∧ n = (bts a b (str t)).length := by
 cases l with
 | nil => cases h
 | cons k r =>
  simp only [readV] at h
  by_cases h2 : k = 2
  ·rw [if_pos h2] at h
   cases r with
   | nil => cases h
   | cons c r =>
    dsimp only at h
    by_cases hc : c.toNat ≤ 1
    ·rw [if_pos hc] at h
     injection h with h; injection h with e1 h; injection h with e2 h; injection h with e3 e4
     subst e1 e2 e3 e4 h2
     have e0 : str [] = ⟨#[]⟩ := rfl
     rw [e0, bts2, ofNat_toNat_int, good2 (by omega), decide_eq_true (by omega)]
     exact ⟨rfl, r, rfl, rfl⟩
    ·rw [if_neg hc] at h; cases h
  ·rw [if_neg h2] at h
   by_cases h3 : k = 3
   ·rw [if_pos h3] at h
    match r, h with
    | [], h => cases h
    | [_], h => cases h
    | [_, _], h => cases h
    | [_, _, _], h => cases h
    | p :: q :: u :: v :: r, h =>
     dsimp only at h
     have hn := num4_lt p q u v
     by_cases hc : num4 p q u v ≤ 2000000000
     ·rw [if_pos hc] at h
      injection h with h; injection h with e1 h; injection h with e2 h; injection h with e3 e4
      subst e1 e2 e3 e4 h3
      have e0 : str [] = ⟨#[]⟩ := rfl
      rw [e0, bts3, w64 (by omega) (by omega), show num4 p q u v - 1000000000 + 1000000000 = num4 p q u v by omega, be4_num4, good3, decide_eq_true (by omega)]
      exact ⟨rfl, r, rfl, rfl⟩
     ·rw [if_neg hc] at h; cases h
   ·rw [if_neg h3] at h
    by_cases h4 : k = 4
    ·rw [if_pos h4] at h
     cases hr : readT r with
     | none => rw [hr] at h; cases h
     | some p =>
      obtain ⟨t1, n1⟩ := p
      rw [hr] at h
      dsimp only at h
      by_cases hc : t1.length ≤ 12
      ·rw [if_pos hc] at h
       injection h with h; injection h with e1 h; injection h with e2 h; injection h with e3 e4
       obtain ⟨s, hs, hn⟩ := readT_back _ r t1 n1 (Nat.le_refl _) hr
       subst e1 e2 e3 e4 h4 hs hn
       rw [bts4, str_list, good4, str_size, decide_eq_true hc]
       refine ⟨rfl, s, by simp, ?_⟩
       simp only [List.length_cons, List.length_append, List.length_nil]
       omega
      ·rw [if_neg hc] at h; cases h
    ·rw [if_neg h4] at h
     by_cases h1 : k = 1
     ·rw [if_pos h1] at h
      injection h with h; injection h with e1 h; injection h with e2 h; injection h with e3 e4
      subst e1 e2 e3 e4 h1
      have e0 : str [] = ⟨#[]⟩ := rfl
      rw [e0, bts1]
      exact ⟨good1, r, rfl, rfl⟩
     ·rw [if_neg h1] at h; cases h
theorem or_add {i : Nat} (x y : Int) (h0 : 0 ≤ x) (h1 : x < 4611686018427387904) (hd : ∃ m : Nat, x = ((2 ^ i * m : Nat) : Int)) (h2 : 0 ≤ y) (h3 : y < ((2 ^ i : Nat) : Int)) (h4 : y < 4611686018427387904) : Go.bits .or .i64 x y = x + y := by
 obtain ⟨m, rfl⟩ := hd
 obtain ⟨n, rfl⟩ := Int.eq_ofNat_of_zero_le h2
 have hn : n < 2 ^ i := by omega
 have e := Nat.two_pow_add_eq_or_of_lt hn m
 have z1 : (BitVec.ofInt 64 ((2 ^ i * m : Nat) : Int)).toNat = 2 ^ i * m := by
  rw [BitVec.ofInt_natCast, BitVec.toNat_ofNat, Nat.mod_eq_of_lt (by omega)]
 have z2 : (BitVec.ofInt 64 ((n : Nat) : Int)).toNat = n := by
  rw [BitVec.ofInt_natCast, BitVec.toNat_ofNat, Nat.mod_eq_of_lt (by omega)]
 show IntKind.i64.wrap (((BitVec.ofInt 64 ((2 ^ i * m : Nat) : Int) ||| BitVec.ofInt 64 ((n : Nat) : Int)).toNat : Nat) : Int) = _
 rw [BitVec.toNat_or, z1, z2, ← e]
 rw [i64_w, w64 (by omega) (by omega)]
 rw [Int.natCast_add]
theorem ints_cons (c : UInt8) (l : List UInt8) : ints (c :: l) = (c.toNat : Int) :: ints l := rfl
theorem str_cons_add (x : List Int) (c : UInt8) (t : List UInt8) : x ++ [(c.toNat : Int)] ++ ints t = x ++ ints (c :: t) := by rw [ints_cons]; simp
theorem ex_list (s : ByteArray) (i j : Nat) : (s.extract i j).toList = (s.toList.drop i).take (j - i) := by
 rw [ByteArray.toList_eq, ByteArray.toList_eq, ByteArray.data_extract, Array.toList_extract, List.extract_eq_take_drop]
theorem ex_tail (s : ByteArray) (i : Nat) : (s.extract i s.size).toList = s.toList.drop i := by
 rw [ex_list, List.take_of_length_le (by rw [List.length_drop, size_toList]; omega)]
theorem readTextI (s : ByteArray) (hs : s.size ≤ 1000000) : ∀ (d i : Nat) (x : List Int), i + d = s.size → x.length ≤ i → Ev (fun k => impl_readText.l0 k s x (i : Int)) (match readT (s.toList.drop i) with
  | some (t, n) => (strOfNums (x ++ ints t), (i : Int) + (n : Int), true)
  | none => (⟨#[]⟩, 0, false)) := by
 intro d
 induction d using Nat.strongRecOn with
 | ind d ih =>
  intro i x hi hx
  by_cases h0 : d = 0
  ·rw [List.drop_eq_nil_of_le (by rw [size_toList]; omega)]
   exact Ev.step (f := fun _ => some (⟨#[]⟩, 0, false)) (fun k => by simp only [impl_readText.l0]; rw [if_neg (by omega)]) (Ev.now _)
  ·have hlt : i < s.size := by omega
   have hg := bt_get s i hlt
   rw [drop_at s.toList i (by rw [size_toList]; omega)]
   generalize hc0 : s.toList.getD i 0 = c at hg ⊢
   by_cases hc : c = 0
   ·subst hc
    have hb : bt s (i : Int) = 0 := by rw [hg]; rfl
    have w : wrap64 ((i : Int) + 1) = ((i + 1 : Nat) : Int) := by rw [w64 (by omega) (by omega)]; omega
    by_cases h1 : i + 1 < s.size
    ·have hg1 := bt_get s (i + 1) h1
     rw [drop_at s.toList (i + 1) (by rw [size_toList]; omega)]
     generalize hd0 : s.toList.getD (i + 1) 0 = dd at hg1 ⊢
     refine Ev.step (f := fun k => impl_readText.j1 k s x ((i + 1 : Nat) : Int) (bt s ((i + 1 : Nat) : Int) == 0)) (fun k => ?_) ?_
     ·simp only [impl_readText.l0]
      rw [if_pos (by omega), if_pos (by omega), if_pos hb, w, if_pos (by omega), if_pos (by omega)]
     ·rw [readT, if_neg (by simp)]
      by_cases hd : dd = 0
      ·rw [if_pos hd, hg1, hd]
       refine Ev.step (f := fun _ => some (strOfNums x, wrap64 (((i + 1 : Nat) : Int) + 1), true)) (fun k => ?_) (ev_eq (Ev.now _) ?_)
       ·simp only [impl_readText.j1]; rw [if_pos (by decide)]
       ·rw [w64 (by omega) (by omega)]
        show _ = (strOfNums (x ++ []), (i : Int) + ((2 : Nat) : Int), true)
        rw [List.append_nil]
        congr 2
      ·rw [if_neg hd]
       have hz : ¬ ((dd.toNat : Int) == 0) = true := fun e => hd (UInt8.toNat_inj.1 (by have := beq_iff_eq.1 e; show dd.toNat = 0; omega))
       by_cases hd2 : dd = 255
       ·rw [if_pos hd2]
        have hr := ih (d - 2) (by omega) (i + 2) (x ++ [0]) (by omega) (by rw [List.length_append]; simp only [List.length_cons, List.length_nil]; omega)
        refine Ev.step (f := fun k => impl_readText.l0 k s (x ++ [0]) ((i + 2 : Nat) : Int)) (fun k => ?_) (ev_eq hr ?_)
        ·simp only [impl_readText.j1]
         rw [if_neg (by rw [hg1]; exact hz), if_neg (by omega), if_pos (by omega), if_pos (by omega), if_pos (by rw [hg1, hd2]; rfl), if_pos (by omega), w64 (x := ((i + 1 : Nat) : Int) + 1) (by omega) (by omega)]
         congr 1
        ·cases readT (s.toList.drop (i + 2)) with
         | none => rfl
         | some p =>
          show (strOfNums (x ++ [0] ++ ints p.1), ((i + 2 : Nat) : Int) + (p.2 : Int), true) = (strOfNums (x ++ ints (0 :: p.1)), (i : Int) + ((p.2 + 2 : Nat) : Int), true)
          rw [show (0 : Int) = ((0 : UInt8).toNat : Int) from rfl, str_cons_add]
          congr 2
          omega
       ·rw [if_neg hd2]
        refine Ev.step (f := fun _ => some (⟨#[]⟩, 0, false)) (fun k => ?_) (Ev.now _)
        simp only [impl_readText.j1]
        rw [if_neg (by rw [hg1]; exact hz), if_neg (by omega), if_pos (by omega), if_pos (by omega), if_neg]
        rw [hg1]
        intro e
        exact hd2 (UInt8.toNat_inj.1 (by show dd.toNat = 255; omega))
    ·rw [List.drop_eq_nil_of_le (by rw [size_toList]; omega)]
     refine Ev.step (f := fun k => impl_readText.j1 k s x ((i + 1 : Nat) : Int) false) (fun k => ?_) (Ev.step (f := fun _ => some (⟨#[]⟩, 0, false)) (fun k => ?_) (Ev.now _))
     ·simp only [impl_readText.l0]
      rw [if_pos (by omega), if_pos (by omega), if_pos hb, w, if_neg (by omega)]
     ·simp only [impl_readText.j1]
      rw [if_neg (by simp), if_pos (by omega)]
   ·have hb : ¬ bt s (i : Int) = 0 := by
     rw [hg]
     intro e
     exact hc (UInt8.toNat_inj.1 (by show c.toNat = 0; omega))
    have hr := ih (d - 1) (by omega) (i + 1) (x ++ [bt s (i : Int)]) (by omega) (by rw [List.length_append]; simp only [List.length_cons, List.length_nil]; omega)
    refine Ev.step (f := fun k => impl_readText.l0 k s (x ++ [bt s (i : Int)]) ((i + 1 : Nat) : Int)) (fun k => ?_) (ev_eq hr ?_)
    ·simp only [impl_readText.l0]
     rw [if_pos (by omega), if_pos (by omega), if_neg hb, if_pos (by omega), w64 (x := (i : Int) + 1) (by omega) (by omega)]
     congr 1
    ·rw [readT_one hc, hg]
     cases readT (s.toList.drop (i + 1)) with
     | none => rfl
     | some p =>
      show (strOfNums (x ++ [(c.toNat : Int)] ++ ints p.1), ((i + 1 : Nat) : Int) + (p.2 : Int), true) = (strOfNums (x ++ ints (c :: p.1)), (i : Int) + ((p.2 + 1 : Nat) : Int), true)
      rw [str_cons_add]
      congr 2
      omega
end Go.Proofs.YthhkkhnjkoacnaaDoor.QF
end
