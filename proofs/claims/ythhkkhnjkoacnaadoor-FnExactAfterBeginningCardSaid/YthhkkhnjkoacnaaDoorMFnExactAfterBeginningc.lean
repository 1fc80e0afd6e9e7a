/- For the law FnExactAfterBeginning (laid by merge.py). -/
import Derived.Test.YthhkkhnjkoacnaaDoorMFnExactAfterBeginningb
import Derived.Laws.BitsLemmas
import Derived.Deep.Slices
import Derived.ChangeArms
import Derived.DataReads
section
namespace Go.Proofs.YthhkkhnjkoacnaaDoor.PA
open Go.RowKit Go.Proofs.YthhkkhnjkoacnaaDoorW.PrintWords Go.Proofs.YthhkkhnjkoacnaaDoorW.PrintLast Go.Proofs.YthhkkhnjkoacnaaDoorW.PrintMore
attribute [local go_sem] max2_int min2_int max_two min_two max_three min_three max_four min_four
set_option linter.unusedVariables false
set_option linter.unusedSimpArgs false
set_option maxHeartbeats 60000000
set_option maxRecDepth 100000
def impl_RowBytes.l0 : Nat → ByteArray → List (S27) → Int → Int → Option (ByteArray × Bool)
 | 0, _, _, _, _ => none
 | k + 1, x4, x10, x11, x12 => if x12 < x11 then (if 0 ≤ x12 then (if x12 < (x10.length : Int) then ((impl_Value_bytes.f ((rd_T27 x10 x12).f0) ((rd_T27 x10 x12).f1) ((rd_T27 x10 x12).f2)).bind fun t13 => (if x4.size + t13.size ≤ 9223372036854775807 then (impl_RowBytes.l0 k (x4 ++ t13) x10 x11 (wrap64 (x12 + 1))) else (none))) else (none)) else (none)) else (some (x4, true))
def impl_RowBytes.f (k : Nat) (l0 : List (S27)) : Option (ByteArray × Bool) := (impl_isRow.f k l0).bind fun t10 => (if t10 = true then (impl_RowBytes.l0 k (⟨#[]⟩ : ByteArray) l0 (l0.length : Int) 0) else (some ((⟨#[]⟩ : ByteArray), false)))
theorem impl_RowBytes.calls (k : Nat) (A0 : Option Addr) (c0 : Nat) (l0 : List (S27)) (r1 : ByteArray) (r2 : Bool) (w : World) (hr0 : Kd.C k27 w A0 l0.length l0) (hc0 : l0.length ≤ c0) (h : impl_RowBytes.f k l0 = some (r1, r2)) :
  Calls Tryd.prog 20 #[.slice A0 l0.length c0] w fun e w' => e = .returned (.tuple #[.string r1, .bool r2]) ∧ Below w.heap.size w w' := by
 have hu27 := Tryd.underlying27; have HR0 := zA hr0; have HC0 := zA hc0; clear hr0 hc0; have HB := zA (Below.refl w.heap.size w); have H : ((impl_isRow.f k l0).bind fun t14 => (if t14 = true then (impl_RowBytes.l0 k (⟨#[]⟩ : ByteArray) l0 (l0.length : Int) 0) else (some ((⟨#[]⟩ : ByteArray), false)))) = some (r1, r2) := h; clear h; replace H := zAF H; obtain ⟨t14, A20, H⟩ := H; replace H : (if t14 = true then (impl_RowBytes.l0 k (⟨#[]⟩ : ByteArray) l0 (l0.length : Int) 0) else (some ((⟨#[]⟩ : ByteArray), false))) = some (r1, r2) := H; have A2 := zA A20; clear A20
 by_cases c3 : t14 = true
 ·subst c3
  have H1 : (impl_RowBytes.l0 k (⟨#[]⟩ : ByteArray) l0 (l0.length : Int) 0) = some (r1, r2) := by rw [if_pos rfl] at H; exact H
  clear H; have H := H1; clear H1; have H' := zA H; clear H; go_enter Tryd.func20, Tryd.ntmps20; go_wp2_with (first | ((with_reducible refine yB (f := 48) rfl ?_); refine goesL_ (some 8) rfl rfl Tryd.func48 (by kernel_rfl) rfl #[.slice A0 l0.length c0] rfl (by (try simp only [zAA, zAB, zAC]); first | done | rfl | (simp only [zZ, zY]; rfl)) ?_; (with_reducible refine (impl_isRow.calls k _ _ l0 true _ ?side1 ?side2 A2.out).mono ?_); (case side1 => repeat (first | exact HR0.out | (with_reducible refine zT ?_ _) | (with_reducible refine zU ?_ _) | (with_reducible refine zV ?_))); (case side2 => exact HC0.out); rintro e w4 ⟨rfl, hb⟩; refine ⟨_, rfl, ?_⟩; have n0_ := zA (zAD (by (with_reducible repeat first | exact HB.out | apply zH | apply zF | apply zG) <;> exact HB.out) hb); clear HB; have HB := n0_; clear n0_; (try clear hb))); go_loopg [4, 12] k (fun kq v4 v12 w' => ∃ (x4_1 : ByteArray) (x12_1 : Int), v4 = .string x4_1 ∧ v12 = .int .i64 x12_1 ∧ Aside0 (impl_RowBytes.l0 kq x4_1 l0 (l0.length : Int) x12_1 = some (r1, r2)) ∧ Aside0 (kq ≤ k) ∧ Aside0 (Below w.heap.size w w'))
  case atStart => exact ⟨((⟨#[]⟩ : ByteArray)), (0), (by first | rfl | (simp; done) | (simp [*]; done) | (simp [bne]; done)), (by first | rfl | (simp; done) | (simp [*]; done) | (simp [bne]; done)), H', ⟨Nat.le_refl _⟩, ⟨by (with_reducible repeat first | exact HB.out | apply zH | apply zF | apply zG) <;> exact HB.out⟩⟩
  case round =>
   clear H'
   try clear c2
   try clear p2
   try clear c3
   try clear c4
   obtain ⟨x4_1, x12_1, rfl, rfl, HA, HK1, HB⟩ := hrel
   cases gk with
   | zero => exact absurd HA.out (by simp [impl_RowBytes.l0])
   | succ k1 =>
    have H := HA.out; clear HA; simp only [impl_RowBytes.l0] at H
    by_cases c5 : x12_1 < (l0.length : Int)
    ·rw [if_pos c5] at H
     have c5b0 : decide (x12_1 < (l0.length : Int)) = true := zX c5; clear c5
     by_cases c6 : 0 ≤ x12_1
     ·rw [if_pos c6] at H
      have c6b0 : decide (0 ≤ x12_1) = true := zX c6; clear c6
      by_cases c7 : x12_1 < (l0.length : Int)
      ·rw [if_pos c7] at H
       have c7b0 : decide (x12_1 < (l0.length : Int)) = true := zX c7; clear c7; replace H := zAF H; obtain ⟨t15, A80, H⟩ := H; replace H : (if x4_1.size + t15.size ≤ 9223372036854775807 then (impl_RowBytes.l0 k1 (x4_1 ++ t15) l0 (l0.length : Int) (wrap64 (x12_1 + 1))) else (none)) = some (r1, r2) := H; have A8 := zA A80; clear A80
       by_cases c9 : x4_1.size + t15.size ≤ 9223372036854775807
       ·rw [if_pos c9] at H
        have c9b0 := eq_true c9; have c9b1 : decide (x4_1.size + t15.size ≤ 9223372036854775807) = true := zX c9
        try have c9b2 : (9223372036854775807 < x4_1.size + t15.size) = False := eq_false (Nat.not_lt.2 c9)
        have H' := zA H; clear H; have p16 : 0 ≤ (x12_1 : Int) := zW (by first | (with_reducible assumption) | assumption); have q16 : x12_1 < (l0.length : Int) := zW (by first | (with_reducible assumption) | assumption); obtain ⟨ad16, e16, hx16_0, hx16_1, hx16_2⟩ := at_T27 HR0.out x12_1 p16 q16
        cases e16
        replace hx16_0 := (HB.out.cell (zB w _ hx16_0)).trans hx16_0; replace hx16_1 := (HB.out.cell (zB w _ hx16_1)).trans hx16_1; replace hx16_2 := (HB.out.cell (zB w _ hx16_2)).trans hx16_2; replace p16 := eq_true p16; replace q16 := eq_true q16; go_wp2_with (first | ((with_reducible refine gate_dst (N := 6) rfl ?_); refine box_event ?hg (N := 6) ?hd (cs := #[.int .i64 0, .int .i64 0, .string (⟨#[]⟩ : ByteArray)]) (t := 27) ?hr ?_; (case hd => rfl); (case hg => rfl); (case hr => first | (go_simp; done) | (go_simp; rfl)); intro gb17 hg w10 hbox hb; have n0_ := zA (zAD (by (with_reducible repeat first | exact HB.out | apply zH | apply zF | apply zG) <;> exact HB.out) hb); have n1_ := zA (hbox); have n2_ := zA ((by rw [hg]; exact (zAE (by (with_reducible repeat first | exact HB.out | apply zH | apply zF | apply zG) <;> exact HB.out)) : w.heap.size ≤ gb17)); have n3_ := zA ((by rw [hg]; exact (zAE (by (with_reducible repeat first | exact HB.out | apply zH | apply zF | apply zG) <;> exact HB.out)) : w.heap.size ≤ gb17)); clear HB; have HB := n0_; have BK17 := n1_; have GW17 := n2_; have GE17 := n3_; clear n0_ n1_ n2_ n3_; clear hb hbox hg; have hcz11_0 : w10.cell? ⟨gb17, 0, none⟩ = some (.int .i64 0) := (zP BK17.out 0).trans rfl; have hcz11_1 : w10.cell? ⟨gb17, 1, none⟩ = some (.int .i64 0) := (zP BK17.out 1).trans rfl; have hcz11_2 : w10.cell? ⟨gb17, 2, none⟩ = some (.string (⟨#[]⟩ : ByteArray)) := (zP BK17.out 2).trans rfl; have hfz11_0 := zO BK17.out 0; have hfz11_1 := zO BK17.out 1; have hfz11_2 := zO BK17.out 2) | ((with_reducible refine yB (f := 35) rfl ?_); refine goesL_ (some 18) rfl rfl Tryd.func35 (by kernel_rfl) rfl #[.agg #[.int .i64 ((rd_T27 l0 x12_1).f0), .int .i64 ((rd_T27 l0 x12_1).f1), .string ((rd_T27 l0 x12_1).f2)]] rfl (by (try simp only [zAA, zAB, zAC]); first | done | rfl) ?_; (with_reducible refine (impl_Value_bytes.calls ((rd_T27 l0 x12_1).f0) ((rd_T27 l0 x12_1).f1) ((rd_T27 l0 x12_1).f2) t15 _ A8.out).mono ?_); rintro e w12 ⟨rfl, hb⟩; refine ⟨_, rfl, ?_⟩; have n0_ := zA (yE (g := gb17) (o := .cells #[.int .i64 ((rd_T27 l0 x12_1).f0), .int .i64 ((rd_T27 l0 x12_1).f1), .string ((rd_T27 l0 x12_1).f2)] 27 (0, 0)) (by (with_reducible repeat (first | refine zL ?_ _ | refine zN ?_ | refine zM ?_ _)); refine blk_put (cs := #[.int .i64 ((rd_T27 l0 x12_1).f0), .int .i64 ((rd_T27 l0 x12_1).f1), .string (⟨#[]⟩ : ByteArray)]) ?_ 2 _ rfl; (with_reducible repeat (first | refine zL ?_ _ | refine zN ?_ | refine zM ?_ _)); refine blk_put (cs := #[.int .i64 ((rd_T27 l0 x12_1).f0), .int .i64 0, .string (⟨#[]⟩ : ByteArray)]) ?_ 1 _ rfl; (with_reducible repeat (first | refine zL ?_ _ | refine zN ?_ | refine zM ?_ _)); refine blk_put (cs := #[.int .i64 0, .int .i64 0, .string (⟨#[]⟩ : ByteArray)]) ?_ 0 _ rfl; (with_reducible repeat (first | refine zL ?_ _ | refine zN ?_ | refine zM ?_ _)); exact BK17.out) hb); have n1_ := zA (zAD (by repeat (first | (with_reducible first | exact HB.out | apply zH | apply zF | apply zG | refine zI ?_ GE17.out) | exact HB.out)) hb); clear BK17; clear HB; have BK17 := n0_; have HB := n1_; clear n0_ n1_; (try clear hb))); go_roundg k1
        case measure => have := HK1.out; omega
        case rel => exact ⟨(x4_1 ++ t15), (wrap64 (x12_1 + 1)), (by first | rfl | (simp; done) | (simp [*]; done) | (simp [bne]; done)), (by first | rfl | (simp; done) | (simp [*]; done) | (simp [bne]; done)), H', ⟨by have := HK1.out; omega⟩, ⟨by repeat (first | (with_reducible first | exact HB.out | apply zH | apply zF | apply zG | refine zI ?_ GE17.out) | exact HB.out)⟩⟩
       ·rw [if_neg c9] at H
        exact absurd H (by simp)
      ·rw [if_neg c7] at H
       exact absurd H (by simp)
     ·rw [if_neg c6] at H
      exact absurd H (by simp)
    ·rw [if_neg c5] at H
     have c5b0 : decide (x12_1 < (l0.length : Int)) = false := decide_eq_false c5; clear c5; simp only [Option.some.injEq, Prod.mk.injEq] at H; obtain ⟨rfl, rfl⟩ := H; go_wp2; go_ret2; exact ⟨by first | rfl | (simp <;> rfl) | (simp [*] <;> rfl), by (with_reducible repeat first | exact HB.out | apply zH | apply zF | apply zG) <;> exact HB.out⟩
 ·replace c3 := Bool.eq_false_iff.mpr c3
  subst c3; have H1 : (some ((⟨#[]⟩ : ByteArray), false)) = some (r1, r2) := by rw [if_neg (show ¬ (false = true) by decide)] at H; exact H
  clear H; have H := H1; clear H1; simp only [Option.some.injEq, Prod.mk.injEq] at H; obtain ⟨rfl, rfl⟩ := H; go_enter Tryd.func20, Tryd.ntmps20; go_wp2_with (first | ((with_reducible refine yB (f := 48) rfl ?_); refine goesL_ (some 8) rfl rfl Tryd.func48 (by kernel_rfl) rfl #[.slice A0 l0.length c0] rfl (by (try simp only [zAA, zAB, zAC]); first | done | rfl | (simp only [zZ, zY]; rfl)) ?_; (with_reducible refine (impl_isRow.calls k _ _ l0 false _ ?side1 ?side2 A2.out).mono ?_); (case side1 => repeat (first | exact HR0.out | (with_reducible refine zT ?_ _) | (with_reducible refine zU ?_ _) | (with_reducible refine zV ?_))); (case side2 => exact HC0.out); rintro e w13 ⟨rfl, hb⟩; refine ⟨_, rfl, ?_⟩; have n0_ := zA (zAD (by (with_reducible repeat first | exact HB.out | apply zH | apply zF | apply zG) <;> exact HB.out) hb); clear HB; have HB := n0_; clear n0_; (try clear hb))); go_ret2; exact ⟨by first | rfl | (simp <;> rfl) | (simp [*] <;> rfl), by (with_reducible repeat first | exact HB.out | apply zH | apply zF | apply zG) <;> exact HB.out⟩
def laws_eqValue.f (a0_0 : Int) (a0_1 : Int) (a0_2 : ByteArray) (a1_0 : Int) (a1_1 : Int) (a1_2 : ByteArray) : Option (Bool) := if a0_0 = a1_0 then (if a0_1 = a1_1 then (if a0_2.toList = a1_2.toList then (some true) else (some false)) else (some false)) else (some false)
theorem laws_eqValue.calls (a0_0 : Int) (a0_1 : Int) (a0_2 : ByteArray) (a1_0 : Int) (a1_1 : Int) (a1_2 : ByteArray) (r : Bool) (w : World) (h : laws_eqValue.f a0_0 a0_1 a0_2 a1_0 a1_1 a1_2 = some r) :
  Calls Tryd.prog 49 #[.agg #[.int .i64 a0_0, .int .i64 a0_1, .string a0_2], .agg #[.int .i64 a1_0, .int .i64 a1_1, .string a1_2]] w fun e w' => e = .returned (.bool r) ∧ Below w.heap.size w w' := by
 have hu27 := Tryd.underlying27; have HB := zA (Below.refl w.heap.size w); have H : (if a0_0 = a1_0 then (if a0_1 = a1_1 then (if a0_2.toList = a1_2.toList then (some true) else (some false)) else (some false)) else (some false)) = some r := h; clear h
 by_cases c3 : a0_0 = a1_0
 ·rw [if_pos c3] at H
  have c3b0 : (a0_0 == a1_0) = true := beq_iff_eq.mpr c3; have c3b1 : (a0_0 != a1_0) = false := bne_eq_false_iff_eq.mpr c3; clear c3
  by_cases c4 : a0_1 = a1_1
  ·rw [if_pos c4] at H
   have c4b0 : (a0_1 == a1_1) = true := beq_iff_eq.mpr c4; have c4b1 : (a0_1 != a1_1) = false := bne_eq_false_iff_eq.mpr c4; clear c4
   by_cases c5 : a0_2.toList = a1_2.toList
   ·rw [if_pos c5] at H
    have c5b0 : (a0_2.toList == a1_2.toList) = true := beq_iff_eq.mpr c5; have c5b1 : (a0_2.toList != a1_2.toList) = false := bne_eq_false_iff_eq.mpr c5; clear c5; obtain rfl := Option.some.inj H; go_enter Tryd.func49, Tryd.ntmps49; go_wp2_with (first | ((with_reducible refine gate_dst (N := 2) rfl ?_); refine box_event ?hg (N := 2) ?hd (cs := #[.int .i64 a0_0, .int .i64 a0_1, .string a0_2]) (t := 27) ?hr ?_; (case hd => rfl); (case hg => rfl); (case hr => first | (go_simp; done) | (go_simp; rfl)); intro gb26 hg w6 hbox hb; have n0_ := zA (zAD (by (with_reducible repeat first | exact HB.out | apply zH | apply zF | apply zG) <;> exact HB.out) hb); have n1_ := zA (hbox); have n2_ := zA ((by rw [hg]; exact (zAE (by (with_reducible repeat first | exact HB.out | apply zH | apply zF | apply zG) <;> exact HB.out)) : w.heap.size ≤ gb26)); have n3_ := zA ((by rw [hg]; exact (zAE (by (with_reducible repeat first | exact HB.out | apply zH | apply zF | apply zG) <;> exact HB.out)) : w.heap.size ≤ gb26)); clear HB; have HB := n0_; have BK26 := n1_; have GW26 := n2_; have GE26 := n3_; clear n0_ n1_ n2_ n3_; clear hb hbox hg) | ((with_reducible refine gate_dst (N := 3) rfl ?_); refine box_event ?hg (N := 3) ?hd (cs := #[.int .i64 a1_0, .int .i64 a1_1, .string a1_2]) (t := 27) ?hr ?_; (case hd => rfl); (case hg => rfl); (case hr => first | (go_simp; done) | (go_simp; rfl)); intro gb28 hg w7 hbox hb; have n0_ := zA (yE (g := gb26) (o := .cells #[.int .i64 a0_0, .int .i64 a0_1, .string a0_2] 27 (0, 0)) (by (with_reducible repeat (first | refine zL ?_ _ | refine zN ?_ | refine zM ?_ _)); exact BK26.out) hb); have n1_ := zA (zAD (by repeat (first | (with_reducible first | exact HB.out | apply zH | apply zF | apply zG | refine zI ?_ GE26.out) | exact HB.out)) hb); have n2_ := zA (hbox); have n3_ := zA ((by rw [hg]; exact (zAE (by repeat (first | (with_reducible first | exact HB.out | apply zH | apply zF | apply zG | refine zI ?_ GE26.out) | exact HB.out))) : w.heap.size ≤ gb28)); have n4_ := zA ((by rw [hg]; exact (zAE (by repeat (first | (with_reducible first | exact HB.out | apply zH | apply zF | apply zG | refine zI ?_ GE26.out) | exact HB.out))) : w.heap.size ≤ gb28)); have n5_ := zA ((by rw [hg]; exact zK (blk_lt (g := gb26) (o := .cells #[.int .i64 a0_0, .int .i64 a0_1, .string a0_2] 27 (0, 0)) (by (with_reducible repeat (first | refine zL ?_ _ | refine zN ?_ | refine zM ?_ _)); exact BK26.out)) : gb26 ≠ gb28)); have n6_ := zA ((by rw [hg]; exact Nat.ne_of_gt (blk_lt (g := gb26) (o := .cells #[.int .i64 a0_0, .int .i64 a0_1, .string a0_2] 27 (0, 0)) (by (with_reducible repeat (first | refine zL ?_ _ | refine zN ?_ | refine zM ?_ _)); exact BK26.out)) : gb28 ≠ gb26)); clear BK26; clear HB; have BK26 := n0_; have HB := n1_; have BK28 := n2_; have GW28 := n3_; have GE28 := n4_; have NB26_28 := n5_; have NB28_26 := n6_; clear n0_ n1_ n2_ n3_ n4_ n5_ n6_; clear hb hbox hg; have hnb8 := NB26_28.out; have hnc8 := NB28_26.out; have hcz9_0 : w7.cell? ⟨gb26, 0, none⟩ = some (.int .i64 a0_0) := (zP BK26.out 0).trans rfl; have hcz9_1 : w7.cell? ⟨gb26, 1, none⟩ = some (.int .i64 a0_1) := (zP BK26.out 1).trans rfl; have hcz9_2 : w7.cell? ⟨gb26, 2, none⟩ = some (.string a0_2) := (zP BK26.out 2).trans rfl; have hfz9_0 := zO BK26.out 0; have hfz9_1 := zO BK26.out 1; have hfz9_2 := zO BK26.out 2; have hcz10_0 : w7.cell? ⟨gb28, 0, none⟩ = some (.int .i64 a1_0) := (zP BK28.out 0).trans rfl; have hcz10_1 : w7.cell? ⟨gb28, 1, none⟩ = some (.int .i64 a1_1) := (zP BK28.out 1).trans rfl; have hcz10_2 : w7.cell? ⟨gb28, 2, none⟩ = some (.string a1_2) := (zP BK28.out 2).trans rfl; have hfz10_0 := zO BK28.out 0; have hfz10_1 := zO BK28.out 1; have hfz10_2 := zO BK28.out 2)); go_ret; exact ⟨by first | rfl | (simp <;> rfl) | (simp [*] <;> rfl), by repeat (first | (with_reducible first | exact HB.out | apply zH | apply zF | apply zG | refine zI ?_ GE26.out | refine zI ?_ GE28.out) | exact HB.out)⟩
   ·rw [if_neg c5] at H
    have c5b0 : (a0_2.toList == a1_2.toList) = false := beq_eq_false_iff_ne.mpr c5; have c5b1 : (a0_2.toList != a1_2.toList) = true := bne_iff_ne.mpr c5; obtain rfl := Option.some.inj H; go_enter Tryd.func49, Tryd.ntmps49; go_wp2_with (first | ((with_reducible refine gate_dst (N := 2) rfl ?_); refine box_event ?hg (N := 2) ?hd (cs := #[.int .i64 a0_0, .int .i64 a0_1, .string a0_2]) (t := 27) ?hr ?_; (case hd => rfl); (case hg => rfl); (case hr => first | (go_simp; done) | (go_simp; rfl)); intro gb26 hg w11 hbox hb; have n0_ := zA (zAD (by (with_reducible repeat first | exact HB.out | apply zH | apply zF | apply zG) <;> exact HB.out) hb); have n1_ := zA (hbox); have n2_ := zA ((by rw [hg]; exact (zAE (by (with_reducible repeat first | exact HB.out | apply zH | apply zF | apply zG) <;> exact HB.out)) : w.heap.size ≤ gb26)); have n3_ := zA ((by rw [hg]; exact (zAE (by (with_reducible repeat first | exact HB.out | apply zH | apply zF | apply zG) <;> exact HB.out)) : w.heap.size ≤ gb26)); clear HB; have HB := n0_; have BK26 := n1_; have GW26 := n2_; have GE26 := n3_; clear n0_ n1_ n2_ n3_; clear hb hbox hg) | ((with_reducible refine gate_dst (N := 3) rfl ?_); refine box_event ?hg (N := 3) ?hd (cs := #[.int .i64 a1_0, .int .i64 a1_1, .string a1_2]) (t := 27) ?hr ?_; (case hd => rfl); (case hg => rfl); (case hr => first | (go_simp; done) | (go_simp; rfl)); intro gb28 hg w12 hbox hb; have n0_ := zA (yE (g := gb26) (o := .cells #[.int .i64 a0_0, .int .i64 a0_1, .string a0_2] 27 (0, 0)) (by (with_reducible repeat (first | refine zL ?_ _ | refine zN ?_ | refine zM ?_ _)); exact BK26.out) hb); have n1_ := zA (zAD (by repeat (first | (with_reducible first | exact HB.out | apply zH | apply zF | apply zG | refine zI ?_ GE26.out) | exact HB.out)) hb); have n2_ := zA (hbox); have n3_ := zA ((by rw [hg]; exact (zAE (by repeat (first | (with_reducible first | exact HB.out | apply zH | apply zF | apply zG | refine zI ?_ GE26.out) | exact HB.out))) : w.heap.size ≤ gb28)); have n4_ := zA ((by rw [hg]; exact (zAE (by repeat (first | (with_reducible first | exact HB.out | apply zH | apply zF | apply zG | refine zI ?_ GE26.out) | exact HB.out))) : w.heap.size ≤ gb28)); have n5_ := zA ((by rw [hg]; exact zK (blk_lt (g := gb26) (o := .cells #[.int .i64 a0_0, .int .i64 a0_1, .string a0_2] 27 (0, 0)) (by (with_reducible repeat (first | refine zL ?_ _ | refine zN ?_ | refine zM ?_ _)); exact BK26.out)) : gb26 ≠ gb28)); have n6_ := zA ((by rw [hg]; exact Nat.ne_of_gt (blk_lt (g := gb26) (o := .cells #[.int .i64 a0_0, .int .i64 a0_1, .string a0_2] 27 (0, 0)) (by (with_reducible repeat (first | refine zL ?_ _ | refine zN ?_ | refine zM ?_ _)); exact BK26.out)) : gb28 ≠ gb26)); clear BK26; clear HB; have BK26 := n0_; have HB := n1_; have BK28 := n2_; have GW28 := n3_; have GE28 := n4_; have NB26_28 := n5_; have NB28_26 := n6_; clear n0_ n1_ n2_ n3_ n4_ n5_ n6_; clear hb hbox hg; have hnb13 := NB26_28.out; have hnc13 := NB28_26.out; have hcz14_0 : w12.cell? ⟨gb26, 0, none⟩ = some (.int .i64 a0_0) := (zP BK26.out 0).trans rfl; have hcz14_1 : w12.cell? ⟨gb26, 1, none⟩ = some (.int .i64 a0_1) := (zP BK26.out 1).trans rfl; have hcz14_2 : w12.cell? ⟨gb26, 2, none⟩ = some (.string a0_2) := (zP BK26.out 2).trans rfl; have hfz14_0 := zO BK26.out 0; have hfz14_1 := zO BK26.out 1; have hfz14_2 := zO BK26.out 2; have hcz15_0 : w12.cell? ⟨gb28, 0, none⟩ = some (.int .i64 a1_0) := (zP BK28.out 0).trans rfl; have hcz15_1 : w12.cell? ⟨gb28, 1, none⟩ = some (.int .i64 a1_1) := (zP BK28.out 1).trans rfl; have hcz15_2 : w12.cell? ⟨gb28, 2, none⟩ = some (.string a1_2) := (zP BK28.out 2).trans rfl; have hfz15_0 := zO BK28.out 0; have hfz15_1 := zO BK28.out 1; have hfz15_2 := zO BK28.out 2)); go_ret; exact ⟨by first | rfl | (simp <;> rfl) | (simp [*] <;> rfl), by repeat (first | (with_reducible first | exact HB.out | apply zH | apply zF | apply zG | refine zI ?_ GE26.out | refine zI ?_ GE28.out) | exact HB.out)⟩
  ·rw [if_neg c4] at H
   have c4b0 : (a0_1 == a1_1) = false := beq_eq_false_iff_ne.mpr c4; have c4b1 : (a0_1 != a1_1) = true := bne_iff_ne.mpr c4; obtain rfl := Option.some.inj H; go_enter Tryd.func49, Tryd.ntmps49; go_wp2_with (first | ((with_reducible refine gate_dst (N := 2) rfl ?_); refine box_event ?hg (N := 2) ?hd (cs := #[.int .i64 a0_0, .int .i64 a0_1, .string a0_2]) (t := 27) ?hr ?_; (case hd => rfl); (case hg => rfl); (case hr => first | (go_simp; done) | (go_simp; rfl)); intro gb26 hg w16 hbox hb; have n0_ := zA (zAD (by (with_reducible repeat first | exact HB.out | apply zH | apply zF | apply zG) <;> exact HB.out) hb); have n1_ := zA (hbox); have n2_ := zA ((by rw [hg]; exact (zAE (by (with_reducible repeat first | exact HB.out | apply zH | apply zF | apply zG) <;> exact HB.out)) : w.heap.size ≤ gb26)); have n3_ := zA ((by rw [hg]; exact (zAE (by (with_reducible repeat first | exact HB.out | apply zH | apply zF | apply zG) <;> exact HB.out)) : w.heap.size ≤ gb26)); clear HB; have HB := n0_; have BK26 := n1_; have GW26 := n2_; have GE26 := n3_; clear n0_ n1_ n2_ n3_; clear hb hbox hg) | ((with_reducible refine gate_dst (N := 3) rfl ?_); refine box_event ?hg (N := 3) ?hd (cs := #[.int .i64 a1_0, .int .i64 a1_1, .string a1_2]) (t := 27) ?hr ?_; (case hd => rfl); (case hg => rfl); (case hr => first | (go_simp; done) | (go_simp; rfl)); intro gb28 hg w17 hbox hb; have n0_ := zA (yE (g := gb26) (o := .cells #[.int .i64 a0_0, .int .i64 a0_1, .string a0_2] 27 (0, 0)) (by (with_reducible repeat (first | refine zL ?_ _ | refine zN ?_ | refine zM ?_ _)); exact BK26.out) hb); have n1_ := zA (zAD (by repeat (first | (with_reducible first | exact HB.out | apply zH | apply zF | apply zG | refine zI ?_ GE26.out) | exact HB.out)) hb); have n2_ := zA (hbox); have n3_ := zA ((by rw [hg]; exact (zAE (by repeat (first | (with_reducible first | exact HB.out | apply zH | apply zF | apply zG | refine zI ?_ GE26.out) | exact HB.out))) : w.heap.size ≤ gb28)); have n4_ := zA ((by rw [hg]; exact (zAE (by repeat (first | (with_reducible first | exact HB.out | apply zH | apply zF | apply zG | refine zI ?_ GE26.out) | exact HB.out))) : w.heap.size ≤ gb28)); have n5_ := zA ((by rw [hg]; exact zK (blk_lt (g := gb26) (o := .cells #[.int .i64 a0_0, .int .i64 a0_1, .string a0_2] 27 (0, 0)) (by (with_reducible repeat (first | refine zL ?_ _ | refine zN ?_ | refine zM ?_ _)); exact BK26.out)) : gb26 ≠ gb28)); have n6_ := zA ((by rw [hg]; exact Nat.ne_of_gt (blk_lt (g := gb26) (o := .cells #[.int .i64 a0_0, .int .i64 a0_1, .string a0_2] 27 (0, 0)) (by (with_reducible repeat (first | refine zL ?_ _ | refine zN ?_ | refine zM ?_ _)); exact BK26.out)) : gb28 ≠ gb26)); clear BK26; clear HB; have BK26 := n0_; have HB := n1_; have BK28 := n2_; have GW28 := n3_; have GE28 := n4_; have NB26_28 := n5_; have NB28_26 := n6_; clear n0_ n1_ n2_ n3_ n4_ n5_ n6_; clear hb hbox hg; have hnb18 := NB26_28.out; have hnc18 := NB28_26.out; have hcz19_0 : w17.cell? ⟨gb26, 0, none⟩ = some (.int .i64 a0_0) := (zP BK26.out 0).trans rfl; have hcz19_1 : w17.cell? ⟨gb26, 1, none⟩ = some (.int .i64 a0_1) := (zP BK26.out 1).trans rfl; have hcz19_2 : w17.cell? ⟨gb26, 2, none⟩ = some (.string a0_2) := (zP BK26.out 2).trans rfl; have hfz19_0 := zO BK26.out 0; have hfz19_1 := zO BK26.out 1; have hfz19_2 := zO BK26.out 2; have hcz20_0 : w17.cell? ⟨gb28, 0, none⟩ = some (.int .i64 a1_0) := (zP BK28.out 0).trans rfl; have hcz20_1 : w17.cell? ⟨gb28, 1, none⟩ = some (.int .i64 a1_1) := (zP BK28.out 1).trans rfl; have hcz20_2 : w17.cell? ⟨gb28, 2, none⟩ = some (.string a1_2) := (zP BK28.out 2).trans rfl; have hfz20_0 := zO BK28.out 0; have hfz20_1 := zO BK28.out 1; have hfz20_2 := zO BK28.out 2)); go_ret; exact ⟨by first | rfl | (simp <;> rfl) | (simp [*] <;> rfl), by repeat (first | (with_reducible first | exact HB.out | apply zH | apply zF | apply zG | refine zI ?_ GE26.out | refine zI ?_ GE28.out) | exact HB.out)⟩
 ·rw [if_neg c3] at H
  have c3b0 : (a0_0 == a1_0) = false := beq_eq_false_iff_ne.mpr c3; have c3b1 : (a0_0 != a1_0) = true := bne_iff_ne.mpr c3; obtain rfl := Option.some.inj H; go_enter Tryd.func49, Tryd.ntmps49; go_wp2_with (first | ((with_reducible refine gate_dst (N := 2) rfl ?_); refine box_event ?hg (N := 2) ?hd (cs := #[.int .i64 a0_0, .int .i64 a0_1, .string a0_2]) (t := 27) ?hr ?_; (case hd => rfl); (case hg => rfl); (case hr => first | (go_simp; done) | (go_simp; rfl)); intro gb26 hg w21 hbox hb; have n0_ := zA (zAD (by (with_reducible repeat first | exact HB.out | apply zH | apply zF | apply zG) <;> exact HB.out) hb); have n1_ := zA (hbox); have n2_ := zA ((by rw [hg]; exact (zAE (by (with_reducible repeat first | exact HB.out | apply zH | apply zF | apply zG) <;> exact HB.out)) : w.heap.size ≤ gb26)); have n3_ := zA ((by rw [hg]; exact (zAE (by (with_reducible repeat first | exact HB.out | apply zH | apply zF | apply zG) <;> exact HB.out)) : w.heap.size ≤ gb26)); clear HB; have HB := n0_; have BK26 := n1_; have GW26 := n2_; have GE26 := n3_; clear n0_ n1_ n2_ n3_; clear hb hbox hg) | ((with_reducible refine gate_dst (N := 3) rfl ?_); refine box_event ?hg (N := 3) ?hd (cs := #[.int .i64 a1_0, .int .i64 a1_1, .string a1_2]) (t := 27) ?hr ?_; (case hd => rfl); (case hg => rfl); (case hr => first | (go_simp; done) | (go_simp; rfl)); intro gb28 hg w22 hbox hb; have n0_ := zA (yE (g := gb26) (o := .cells #[.int .i64 a0_0, .int .i64 a0_1, .string a0_2] 27 (0, 0)) (by (with_reducible repeat (first | refine zL ?_ _ | refine zN ?_ | refine zM ?_ _)); exact BK26.out) hb); have n1_ := zA (zAD (by repeat (first | (with_reducible first | exact HB.out | apply zH | apply zF | apply zG | refine zI ?_ GE26.out) | exact HB.out)) hb); have n2_ := zA (hbox); have n3_ := zA ((by rw [hg]; exact (zAE (by repeat (first | (with_reducible first | exact HB.out | apply zH | apply zF | apply zG | refine zI ?_ GE26.out) | exact HB.out))) : w.heap.size ≤ gb28)); have n4_ := zA ((by rw [hg]; exact (zAE (by repeat (first | (with_reducible first | exact HB.out | apply zH | apply zF | apply zG | refine zI ?_ GE26.out) | exact HB.out))) : w.heap.size ≤ gb28)); have n5_ := zA ((by rw [hg]; exact zK (blk_lt (g := gb26) (o := .cells #[.int .i64 a0_0, .int .i64 a0_1, .string a0_2] 27 (0, 0)) (by (with_reducible repeat (first | refine zL ?_ _ | refine zN ?_ | refine zM ?_ _)); exact BK26.out)) : gb26 ≠ gb28)); have n6_ := zA ((by rw [hg]; exact Nat.ne_of_gt (blk_lt (g := gb26) (o := .cells #[.int .i64 a0_0, .int .i64 a0_1, .string a0_2] 27 (0, 0)) (by (with_reducible repeat (first | refine zL ?_ _ | refine zN ?_ | refine zM ?_ _)); exact BK26.out)) : gb28 ≠ gb26)); clear BK26; clear HB; have BK26 := n0_; have HB := n1_; have BK28 := n2_; have GW28 := n3_; have GE28 := n4_; have NB26_28 := n5_; have NB28_26 := n6_; clear n0_ n1_ n2_ n3_ n4_ n5_ n6_; clear hb hbox hg; have hnb23 := NB26_28.out; have hnc23 := NB28_26.out; have hcz24_0 : w22.cell? ⟨gb26, 0, none⟩ = some (.int .i64 a0_0) := (zP BK26.out 0).trans rfl; have hcz24_1 : w22.cell? ⟨gb26, 1, none⟩ = some (.int .i64 a0_1) := (zP BK26.out 1).trans rfl; have hcz24_2 : w22.cell? ⟨gb26, 2, none⟩ = some (.string a0_2) := (zP BK26.out 2).trans rfl; have hfz24_0 := zO BK26.out 0; have hfz24_1 := zO BK26.out 1; have hfz24_2 := zO BK26.out 2; have hcz25_0 : w22.cell? ⟨gb28, 0, none⟩ = some (.int .i64 a1_0) := (zP BK28.out 0).trans rfl; have hcz25_1 : w22.cell? ⟨gb28, 1, none⟩ = some (.int .i64 a1_1) := (zP BK28.out 1).trans rfl; have hcz25_2 : w22.cell? ⟨gb28, 2, none⟩ = some (.string a1_2) := (zP BK28.out 2).trans rfl; have hfz25_0 := zO BK28.out 0; have hfz25_1 := zO BK28.out 1; have hfz25_2 := zO BK28.out 2)); go_ret; exact ⟨by first | rfl | (simp <;> rfl) | (simp [*] <;> rfl), by repeat (first | (with_reducible first | exact HB.out | apply zH | apply zF | apply zG | refine zI ?_ GE26.out | refine zI ?_ GE28.out) | exact HB.out)⟩
def laws_eqValueS.l0 : Nat → List (S27) → List (S27) → Int → Option (Bool)
 | 0, _, _, _ => none
 | k + 1, x0, x1, x5 => if x5 < (x0.length : Int) then (if 0 ≤ x5 then (if x5 < (x1.length : Int) then ((laws_eqValue.f ((rd_T27 x0 x5).f0) ((rd_T27 x0 x5).f1) ((rd_T27 x0 x5).f2) ((rd_T27 x1 x5).f0) ((rd_T27 x1 x5).f1) ((rd_T27 x1 x5).f2)).bind fun t10 => (if t10 = true then (laws_eqValueS.l0 k x0 x1 (wrap64 (x5 + 1))) else (some false))) else (none)) else (none)) else (some true)
def laws_eqValueS.f (k : Nat) (l0 : List (S27)) (l1 : List (S27)) : Option (Bool) := if (l0.length : Int) = (l1.length : Int) then (laws_eqValueS.l0 k l0 l1 0) else (some false)
def laws_eqValueS.T6 : Bool × List (List Nat × List Nat) := (true, [([], []), ([], []), ([0, 1], [0, 1]), ([2], [2]), ([], []), ([], []), ([4, 5], [4, 5]), ([6], [6]), ([3, 7], [3, 7]), ([8], [8])])
def laws_eqValueS.B6 : List Nat := [0, 0, 3, 7, 0, 0, 48, 112, 255, 511]
theorem laws_eqValueS.tab6 : rtab .any (opsOf Tryd.f21 6) = laws_eqValueS.T6 := by kernel_rfl
theorem laws_eqValueS.bits6 : waitsOk laws_eqValueS.T6.2 laws_eqValueS.B6 = true := by kernel_rfl
theorem laws_eqValueS.calls (k : Nat) (A0 : Option Addr) (c0 : Nat) (l0 : List (S27)) (A1 : Option Addr) (c1 : Nat) (l1 : List (S27)) (r : Bool) (w : World) (hr0 : Kd.C k27 w A0 l0.length l0) (hc0 : l0.length ≤ c0) (hr1 : Kd.C k27 w A1 l1.length l1) (hc1 : l1.length ≤ c1) (h : laws_eqValueS.f k l0 l1 = some r) :
  Calls Tryd.prog 21 #[.slice A0 l0.length c0, .slice A1 l1.length c1] w fun e w' => e = .returned (.bool r) ∧ Below w.heap.size w w' := by
 have hu27 := Tryd.underlying27; have HR0 := zA hr0; have HC0 := zA hc0; clear hr0 hc0; have HR1 := zA hr1; have HC1 := zA hc1; clear hr1 hc1; have HB := zA (Below.refl w.heap.size w); have H : (if (l0.length : Int) = (l1.length : Int) then (laws_eqValueS.l0 k l0 l1 0) else (some false)) = some r := h; clear h
 by_cases c3 : (l0.length : Int) = (l1.length : Int)
 ·rw [if_pos c3] at H
  have c3b0 : ((l0.length : Int) == (l1.length : Int)) = true := beq_iff_eq.mpr c3; have c3b1 : ((l0.length : Int) != (l1.length : Int)) = false := bne_eq_false_iff_eq.mpr c3; have c3b2 : (l0.length == l1.length) = true := by first | simpa using c3 | (simp at c3 ⊢; omega)
  clear c3; have H' := zA H; clear H; go_enter Tryd.func21, Tryd.ntmps21; go_wp2; go_loopg [5] k (fun kq v5 w' => ∃ (x5_1 : Int), v5 = .int .i64 x5_1 ∧ Aside0 (laws_eqValueS.l0 kq l0 l1 x5_1 = some r) ∧ Aside0 (kq ≤ k) ∧ Aside0 (Below w.heap.size w w'))
  case atStart => exact ⟨(0), (by first | rfl | (simp; done) | (simp [*]; done) | (simp [bne]; done)), H', ⟨Nat.le_refl _⟩, ⟨by (with_reducible repeat first | exact HB.out | apply zH | apply zF | apply zG) <;> exact HB.out⟩⟩
  case round =>
   clear H'
   try clear c1
   try clear c2
   try clear p2
   try clear c3
   try clear c3b0
   try clear c3b1
   try clear c3b2
   obtain ⟨x5_1, rfl, HA, HK1, HB⟩ := hrel
   cases gk with
   | zero => exact absurd HA.out (by simp [laws_eqValueS.l0])
   | succ k1 =>
    have H := HA.out; clear HA; simp only [laws_eqValueS.l0] at H
    by_cases c4 : x5_1 < (l0.length : Int)
    ·rw [if_pos c4] at H
     have c4b0 : decide (x5_1 < (l0.length : Int)) = true := zX c4; clear c4
     by_cases c5 : 0 ≤ x5_1
     ·rw [if_pos c5] at H
      have c5b0 : decide (0 ≤ x5_1) = true := zX c5; clear c5
      by_cases c6 : x5_1 < (l1.length : Int)
      ·rw [if_pos c6] at H
       have c6b0 : decide (x5_1 < (l1.length : Int)) = true := zX c6; clear c6; replace H := zAF H; obtain ⟨t13, A70, H⟩ := H; replace H : (if t13 = true then (laws_eqValueS.l0 k1 l0 l1 (wrap64 (x5_1 + 1))) else (some false)) = some r := H; have A7 := zA A70; clear A70
       by_cases c8 : t13 = true
       ·subst c8
        have H1 : (laws_eqValueS.l0 k1 l0 l1 (wrap64 (x5_1 + 1))) = some r := by rw [if_pos rfl] at H; exact H
        clear H; have H := H1; clear H1; have H' := zA H; clear H
        try go_wp2
        have n0_ := zA (zG HB.out); clear HB; have HB := n0_; clear n0_; have p14 : 0 ≤ (x5_1 : Int) := zW (by first | (with_reducible assumption) | assumption); have q14 : x5_1 < (l0.length : Int) := zW (by first | (with_reducible assumption) | assumption); obtain ⟨ad14, e14, hx14_0, hx14_1, hx14_2⟩ := at_T27 HR0.out x5_1 p14 q14; have hw14_2 := hx14_2; have hw14_1 := hx14_1; have hw14_0 := hx14_0
        cases e14
        replace hx14_0 := (HB.out.cell (zB w _ hx14_0)).trans hx14_0; replace hx14_1 := (HB.out.cell (zB w _ hx14_1)).trans hx14_1; replace hx14_2 := (HB.out.cell (zB w _ hx14_2)).trans hx14_2; replace p14 := eq_true p14; replace q14 := eq_true q14; have p15 : 0 ≤ (x5_1 : Int) := zW (by first | (with_reducible assumption) | assumption); have q15 : x5_1 < (l1.length : Int) := zW (by first | (with_reducible assumption) | assumption); obtain ⟨ad15, e15, hx15_0, hx15_1, hx15_2⟩ := at_T27 HR1.out x5_1 p15 q15; have hw15_2 := hx15_2; have hw15_1 := hx15_1; have hw15_0 := hx15_0
        cases e15
        replace hx15_0 := (HB.out.cell (zB w _ hx15_0)).trans hx15_0; replace hx15_1 := (HB.out.cell (zB w _ hx15_1)).trans hx15_1; replace hx15_2 := (HB.out.cell (zB w _ hx15_2)).trans hx15_2; replace p15 := eq_true p15; replace q15 := eq_true q15; refine start_ (n := 10) (S := fun w' => w'.cell? (ad14.add ((x5_1).toNat * 3)) = some (.int .i64 ((rd_T27 l0 x5_1).f0)) ∧ w'.cell? ⟨(ad14.add ((x5_1).toNat * 3)).block, (ad14.add ((x5_1).toNat * 3)).off + 1, none⟩ = some (.int .i64 ((rd_T27 l0 x5_1).f1)) ∧ w'.cell? ⟨(ad14.add ((x5_1).toNat * 3)).block, (ad14.add ((x5_1).toNat * 3)).off + 2, none⟩ = some (.string ((rd_T27 l0 x5_1).f2)) ∧ w'.cell? (ad15.add ((x5_1).toNat * 3)) = some (.int .i64 ((rd_T27 l1 x5_1).f0)) ∧ w'.cell? ⟨(ad15.add ((x5_1).toNat * 3)).block, (ad15.add ((x5_1).toNat * 3)).off + 1, none⟩ = some (.int .i64 ((rd_T27 l1 x5_1).f1)) ∧ w'.cell? ⟨(ad15.add ((x5_1).toNat * 3)).block, (ad15.add ((x5_1).toNat * 3)).off + 2, none⟩ = some (.string ((rd_T27 l1 x5_1).f2))) (ds := []) #[false, false, false, false, false, false, false, false, false, false] (by kernel_rfl) rfl rfl ⟨((HB.out.cell (zB w _ hw14_0)).trans hw14_0), ((HB.out.cell (zB w _ hw14_1)).trans hw14_1), ((HB.out.cell (zB w _ hw14_2)).trans hw14_2), ((HB.out.cell (zB w _ hw15_0)).trans hw15_0), ((HB.out.cell (zB w _ hw15_1)).trans hw15_1), ((HB.out.cell (zB w _ hw15_2)).trans hw15_2)⟩ (fun hHeld => ?_); refine with_tabW laws_eqValueS.tab6 laws_eqValueS.bits6 (fun HT_ HW_ => ?_); generalize wr.drew = w9 at HB hx14_0 hx14_1 hx14_2 hx15_0 hx15_1 hx15_2 hHeld ⊢; refine pure_ (i := 0) (N := some 17) (v := ?_) (a' := ?_) #[true, false, false, false, false, false, false, false, false, false] rfl rfl (any_of HT_.out (by kernel_rfl)) (fun _ _ _ h => h) (Or.inl ⟨by rfl, ?_⟩) ?_ ?_; rotate_left
        ·intro w'
         go_simp
         with_reducible rfl
        rotate_left
        ·simp only [Act.put, zC, zD, zE, i64_w]
         rfl
        refine pure_ (i := 1) (N := some 18) (v := ?_) (a' := ?_) #[true, true, false, false, false, false, false, false, false, false] rfl rfl (any_of HT_.out (by kernel_rfl)) (fun _ _ _ h => h) (Or.inl ⟨by rfl, ?_⟩) ?_ ?_; rotate_left
        ·intro w'
         go_simp
         with_reducible rfl
        rotate_left
        ·simp only [Act.put, zC, zD, zE, i64_w]
         rfl
        refine pure_ (i := 2) (N := some 19) (v := ?_) (a' := ?_) #[true, true, true, false, false, false, false, false, false, false] rfl rfl (any_of HT_.out (by kernel_rfl)) (fun _ _ _ h => h) (Or.inl ⟨by rfl, ?_⟩) ?_ ?_; rotate_left
        ·intro w'
         go_simp
         with_reducible rfl
        rotate_left
        ·simp only [Act.put, zC, zD, zE, i64_w]
         rfl
        refine pure_ (i := 4) (N := some 21) (v := ?_) (a' := ?_) #[true, true, true, false, true, false, false, false, false, false] rfl rfl (any_of HT_.out (by kernel_rfl)) (fun _ _ _ h => h) (Or.inl ⟨by rfl, ?_⟩) ?_ ?_; rotate_left
        ·intro w'
         go_simp
         with_reducible rfl
        rotate_left
        ·simp only [Act.put, zC, zD, zE, i64_w]
         rfl
        refine pure_ (i := 5) (N := some 22) (v := ?_) (a' := ?_) #[true, true, true, false, true, true, false, false, false, false] rfl rfl (any_of HT_.out (by kernel_rfl)) (fun _ _ _ h => h) (Or.inl ⟨by rfl, ?_⟩) ?_ ?_; rotate_left
        ·intro w'
         go_simp
         with_reducible rfl
        rotate_left
        ·simp only [Act.put, zC, zD, zE, i64_w]
         rfl
        refine pure_ (i := 6) (N := some 23) (v := ?_) (a' := ?_) #[true, true, true, false, true, true, true, false, false, false] rfl rfl (any_of HT_.out (by kernel_rfl)) (fun _ _ _ h => h) (Or.inl ⟨by rfl, ?_⟩) ?_ ?_; rotate_left
        ·intro w'
         go_simp
         with_reducible rfl
        rotate_left
        ·simp only [Act.put, zC, zD, zE, i64_w]
         rfl
        refine take_ (i := 3) (N := some 20) (v := ?_) (a' := ?_) #[true, true, true, true, true, true, true, false, false, false] rfl rfl (take_ofW HT_.out HW_.out (by kernel_rfl)) (fun _ _ _ h => h) (Or.inl ⟨by rfl, ?_⟩) hHeld ?_ ?_; rotate_left
        ·rintro w' ⟨s0, s1, s2, s3, s4, s5⟩
         go_simp
         with_reducible rfl
        rotate_left
        ·simp only [Act.put, zC, zD, zE, i64_w]
         rfl
        refine take_ (i := 7) (N := some 24) (v := ?_) (a' := ?_) #[true, true, true, true, true, true, true, true, false, false] rfl rfl (take_ofW HT_.out HW_.out (by kernel_rfl)) (fun _ _ _ h => h) (Or.inl ⟨by rfl, ?_⟩) hHeld ?_ ?_; rotate_left
        ·rintro w' ⟨s0, s1, s2, s3, s4, s5⟩
         go_simp
         with_reducible rfl
        rotate_left
        ·simp only [Act.put, zC, zD, zE, i64_w]
         rfl
        refine one_ (i := 8) (N := some 25) #[true, true, true, true, true, true, true, true, true, false] rfl rfl (one_of HT_.out (by kernel_rfl)) (by decide) (fun K hK => ?_); refine goes_ Tryd.func49 (by kernel_rfl) rfl #[.agg #[.int .i64 ((rd_T27 l0 x5_1).f0), .int .i64 ((rd_T27 l0 x5_1).f1), .string ((rd_T27 l0 x5_1).f2)], .agg #[.int .i64 ((rd_T27 l1 x5_1).f0), .int .i64 ((rd_T27 l1 x5_1).f1), .string ((rd_T27 l1 x5_1).f2)]] (by rfl) rfl rfl (by (try simp only [zAA, zAB, zAC]); first | done | rfl) ?_
        with_reducible refine (laws_eqValue.calls ((rd_T27 l0 x5_1).f0) ((rd_T27 l0 x5_1).f1) ((rd_T27 l0 x5_1).f2) ((rd_T27 l1 x5_1).f0) ((rd_T27 l1 x5_1).f1) ((rd_T27 l1 x5_1).f2) true _ A7.out).mono ?_
        rintro e w10 ⟨rfl, hb⟩; refine ⟨_, rfl, ?_⟩; have n0_ := zA (zAD (by (with_reducible repeat first | exact HB.out | apply zH | apply zF | apply zG) <;> exact HB.out) hb); clear HB; have HB := n0_; clear n0_; (try clear hb); refine hK.out _ _ ⟨((HB.out.cell (zB w _ hw14_0)).trans hw14_0), ((HB.out.cell (zB w _ hw14_1)).trans hw14_1), ((HB.out.cell (zB w _ hw14_2)).trans hw14_2), ((HB.out.cell (zB w _ hw15_0)).trans hw15_0), ((HB.out.cell (zB w _ hw15_1)).trans hw15_1), ((HB.out.cell (zB w _ hw15_2)).trans hw15_2)⟩ (fun hHeld => ?_); clear hK K; refine norm_ (a' := ?_) ?_ ?_; rotate_left
        ·show Act.put _ (some 25) _ = _
         simp only [Act.put, zC, zD, zE, i64_w]; rfl
        refine pure_ (i := 9) (N := some 26) (v := ?_) (a' := ?_) #[true, true, true, true, true, true, true, true, true, true] rfl rfl (any_of HT_.out (by kernel_rfl)) (fun _ _ _ h => h) (Or.inl ⟨by rfl, ?_⟩) ?_ ?_; rotate_left
        ·intro w'
         go_simp
         with_reducible rfl
        rotate_left
        ·simp only [Act.put, zC, zD, zE, i64_w]
         rfl
        refine done_ (done_of HT_.out (by kernel_rfl)) ?_
        try go_wp2
        go_roundg k1
        case measure => have := HK1.out; omega
        case rel => exact ⟨(wrap64 (x5_1 + 1)), (by first | rfl | (simp; done) | (simp [*]; done) | (simp [bne]; done)), H', ⟨by have := HK1.out; omega⟩, ⟨by (with_reducible repeat first | exact HB.out | apply zH | apply zF | apply zG) <;> exact HB.out⟩⟩
       ·replace c8 := Bool.eq_false_iff.mpr c8
        subst c8; have H1 : (some false) = some r := by rw [if_neg (show ¬ (false = true) by decide)] at H; exact H
        clear H; have H := H1; clear H1; obtain rfl := Option.some.inj H
        try go_wp2
        have n0_ := zA (zG HB.out); clear HB; have HB := n0_; clear n0_; have p14 : 0 ≤ (x5_1 : Int) := zW (by first | (with_reducible assumption) | assumption); have q14 : x5_1 < (l0.length : Int) := zW (by first | (with_reducible assumption) | assumption); obtain ⟨ad14, e14, hx14_0, hx14_1, hx14_2⟩ := at_T27 HR0.out x5_1 p14 q14; have hw14_2 := hx14_2; have hw14_1 := hx14_1; have hw14_0 := hx14_0
        cases e14
        replace hx14_0 := (HB.out.cell (zB w _ hx14_0)).trans hx14_0; replace hx14_1 := (HB.out.cell (zB w _ hx14_1)).trans hx14_1; replace hx14_2 := (HB.out.cell (zB w _ hx14_2)).trans hx14_2; replace p14 := eq_true p14; replace q14 := eq_true q14; have p15 : 0 ≤ (x5_1 : Int) := zW (by first | (with_reducible assumption) | assumption); have q15 : x5_1 < (l1.length : Int) := zW (by first | (with_reducible assumption) | assumption); obtain ⟨ad15, e15, hx15_0, hx15_1, hx15_2⟩ := at_T27 HR1.out x5_1 p15 q15; have hw15_2 := hx15_2; have hw15_1 := hx15_1; have hw15_0 := hx15_0
        cases e15
        replace hx15_0 := (HB.out.cell (zB w _ hx15_0)).trans hx15_0; replace hx15_1 := (HB.out.cell (zB w _ hx15_1)).trans hx15_1; replace hx15_2 := (HB.out.cell (zB w _ hx15_2)).trans hx15_2; replace p15 := eq_true p15; replace q15 := eq_true q15; refine start_ (n := 10) (S := fun w' => w'.cell? (ad14.add ((x5_1).toNat * 3)) = some (.int .i64 ((rd_T27 l0 x5_1).f0)) ∧ w'.cell? ⟨(ad14.add ((x5_1).toNat * 3)).block, (ad14.add ((x5_1).toNat * 3)).off + 1, none⟩ = some (.int .i64 ((rd_T27 l0 x5_1).f1)) ∧ w'.cell? ⟨(ad14.add ((x5_1).toNat * 3)).block, (ad14.add ((x5_1).toNat * 3)).off + 2, none⟩ = some (.string ((rd_T27 l0 x5_1).f2)) ∧ w'.cell? (ad15.add ((x5_1).toNat * 3)) = some (.int .i64 ((rd_T27 l1 x5_1).f0)) ∧ w'.cell? ⟨(ad15.add ((x5_1).toNat * 3)).block, (ad15.add ((x5_1).toNat * 3)).off + 1, none⟩ = some (.int .i64 ((rd_T27 l1 x5_1).f1)) ∧ w'.cell? ⟨(ad15.add ((x5_1).toNat * 3)).block, (ad15.add ((x5_1).toNat * 3)).off + 2, none⟩ = some (.string ((rd_T27 l1 x5_1).f2))) (ds := []) #[false, false, false, false, false, false, false, false, false, false] (by kernel_rfl) rfl rfl ⟨((HB.out.cell (zB w _ hw14_0)).trans hw14_0), ((HB.out.cell (zB w _ hw14_1)).trans hw14_1), ((HB.out.cell (zB w _ hw14_2)).trans hw14_2), ((HB.out.cell (zB w _ hw15_0)).trans hw15_0), ((HB.out.cell (zB w _ hw15_1)).trans hw15_1), ((HB.out.cell (zB w _ hw15_2)).trans hw15_2)⟩ (fun hHeld => ?_); refine with_tabW laws_eqValueS.tab6 laws_eqValueS.bits6 (fun HT_ HW_ => ?_); generalize wr.drew = w11 at HB hx14_0 hx14_1 hx14_2 hx15_0 hx15_1 hx15_2 hHeld ⊢; refine pure_ (i := 0) (N := some 17) (v := ?_) (a' := ?_) #[true, false, false, false, false, false, false, false, false, false] rfl rfl (any_of HT_.out (by kernel_rfl)) (fun _ _ _ h => h) (Or.inl ⟨by rfl, ?_⟩) ?_ ?_; rotate_left
        ·intro w'
         go_simp
         with_reducible rfl
        rotate_left
        ·simp only [Act.put, zC, zD, zE, i64_w]
         rfl
        refine pure_ (i := 1) (N := some 18) (v := ?_) (a' := ?_) #[true, true, false, false, false, false, false, false, false, false] rfl rfl (any_of HT_.out (by kernel_rfl)) (fun _ _ _ h => h) (Or.inl ⟨by rfl, ?_⟩) ?_ ?_; rotate_left
        ·intro w'
         go_simp
         with_reducible rfl
        rotate_left
        ·simp only [Act.put, zC, zD, zE, i64_w]
         rfl
        refine pure_ (i := 2) (N := some 19) (v := ?_) (a' := ?_) #[true, true, true, false, false, false, false, false, false, false] rfl rfl (any_of HT_.out (by kernel_rfl)) (fun _ _ _ h => h) (Or.inl ⟨by rfl, ?_⟩) ?_ ?_; rotate_left
        ·intro w'
         go_simp
         with_reducible rfl
        rotate_left
        ·simp only [Act.put, zC, zD, zE, i64_w]
         rfl
        refine pure_ (i := 4) (N := some 21) (v := ?_) (a' := ?_) #[true, true, true, false, true, false, false, false, false, false] rfl rfl (any_of HT_.out (by kernel_rfl)) (fun _ _ _ h => h) (Or.inl ⟨by rfl, ?_⟩) ?_ ?_; rotate_left
        ·intro w'
         go_simp
         with_reducible rfl
        rotate_left
        ·simp only [Act.put, zC, zD, zE, i64_w]
         rfl
        refine pure_ (i := 5) (N := some 22) (v := ?_) (a' := ?_) #[true, true, true, false, true, true, false, false, false, false] rfl rfl (any_of HT_.out (by kernel_rfl)) (fun _ _ _ h => h) (Or.inl ⟨by rfl, ?_⟩) ?_ ?_; rotate_left
        ·intro w'
         go_simp
         with_reducible rfl
        rotate_left
        ·simp only [Act.put, zC, zD, zE, i64_w]
         rfl
        refine pure_ (i := 6) (N := some 23) (v := ?_) (a' := ?_) #[true, true, true, false, true, true, true, false, false, false] rfl rfl (any_of HT_.out (by kernel_rfl)) (fun _ _ _ h => h) (Or.inl ⟨by rfl, ?_⟩) ?_ ?_; rotate_left
        ·intro w'
         go_simp
         with_reducible rfl
        rotate_left
        ·simp only [Act.put, zC, zD, zE, i64_w]
         rfl
        refine take_ (i := 3) (N := some 20) (v := ?_) (a' := ?_) #[true, true, true, true, true, true, true, false, false, false] rfl rfl (take_ofW HT_.out HW_.out (by kernel_rfl)) (fun _ _ _ h => h) (Or.inl ⟨by rfl, ?_⟩) hHeld ?_ ?_; rotate_left
        ·rintro w' ⟨s0, s1, s2, s3, s4, s5⟩
         go_simp
         with_reducible rfl
        rotate_left
        ·simp only [Act.put, zC, zD, zE, i64_w]
         rfl
        refine take_ (i := 7) (N := some 24) (v := ?_) (a' := ?_) #[true, true, true, true, true, true, true, true, false, false] rfl rfl (take_ofW HT_.out HW_.out (by kernel_rfl)) (fun _ _ _ h => h) (Or.inl ⟨by rfl, ?_⟩) hHeld ?_ ?_; rotate_left
        ·rintro w' ⟨s0, s1, s2, s3, s4, s5⟩
         go_simp
         with_reducible rfl
        rotate_left
        ·simp only [Act.put, zC, zD, zE, i64_w]
         rfl
        refine one_ (i := 8) (N := some 25) #[true, true, true, true, true, true, true, true, true, false] rfl rfl (one_of HT_.out (by kernel_rfl)) (by decide) (fun K hK => ?_); refine goes_ Tryd.func49 (by kernel_rfl) rfl #[.agg #[.int .i64 ((rd_T27 l0 x5_1).f0), .int .i64 ((rd_T27 l0 x5_1).f1), .string ((rd_T27 l0 x5_1).f2)], .agg #[.int .i64 ((rd_T27 l1 x5_1).f0), .int .i64 ((rd_T27 l1 x5_1).f1), .string ((rd_T27 l1 x5_1).f2)]] (by rfl) rfl rfl (by (try simp only [zAA, zAB, zAC]); first | done | rfl) ?_
        with_reducible refine (laws_eqValue.calls ((rd_T27 l0 x5_1).f0) ((rd_T27 l0 x5_1).f1) ((rd_T27 l0 x5_1).f2) ((rd_T27 l1 x5_1).f0) ((rd_T27 l1 x5_1).f1) ((rd_T27 l1 x5_1).f2) false _ A7.out).mono ?_
        rintro e w12 ⟨rfl, hb⟩; refine ⟨_, rfl, ?_⟩; have n0_ := zA (zAD (by (with_reducible repeat first | exact HB.out | apply zH | apply zF | apply zG) <;> exact HB.out) hb); clear HB; have HB := n0_; clear n0_; (try clear hb); refine hK.out _ _ ⟨((HB.out.cell (zB w _ hw14_0)).trans hw14_0), ((HB.out.cell (zB w _ hw14_1)).trans hw14_1), ((HB.out.cell (zB w _ hw14_2)).trans hw14_2), ((HB.out.cell (zB w _ hw15_0)).trans hw15_0), ((HB.out.cell (zB w _ hw15_1)).trans hw15_1), ((HB.out.cell (zB w _ hw15_2)).trans hw15_2)⟩ (fun hHeld => ?_); clear hK K; refine norm_ (a' := ?_) ?_ ?_; rotate_left
        ·show Act.put _ (some 25) _ = _
         simp only [Act.put, zC, zD, zE, i64_w]; rfl
        refine pure_ (i := 9) (N := some 26) (v := ?_) (a' := ?_) #[true, true, true, true, true, true, true, true, true, true] rfl rfl (any_of HT_.out (by kernel_rfl)) (fun _ _ _ h => h) (Or.inl ⟨by rfl, ?_⟩) ?_ ?_; rotate_left
        ·intro w'
         go_simp
         with_reducible rfl
        rotate_left
        ·simp only [Act.put, zC, zD, zE, i64_w]
         rfl
        refine done_ (done_of HT_.out (by kernel_rfl)) ?_
        try go_wp2
        go_ret; exact ⟨by first | rfl | (simp <;> rfl) | (simp [*] <;> rfl), by (with_reducible repeat first | exact HB.out | apply zH | apply zF | apply zG) <;> exact HB.out⟩
      ·rw [if_neg c6] at H
       exact absurd H (by simp)
     ·rw [if_neg c5] at H
      exact absurd H (by simp)
    ·rw [if_neg c4] at H
     have c4b0 : decide (x5_1 < (l0.length : Int)) = false := decide_eq_false c4; clear c4; obtain rfl := Option.some.inj H; go_wp2; go_ret; exact ⟨by first | rfl | (simp <;> rfl) | (simp [*] <;> rfl), by (with_reducible repeat first | exact HB.out | apply zH | apply zF | apply zG) <;> exact HB.out⟩
 ·rw [if_neg c3] at H
  have c3b0 : ((l0.length : Int) == (l1.length : Int)) = false := beq_eq_false_iff_ne.mpr c3; have c3b1 : ((l0.length : Int) != (l1.length : Int)) = true := bne_iff_ne.mpr c3; have c3b2 : (l0.length == l1.length) = false := by first | simpa using c3 | (simp at c3 ⊢; omega)
  obtain rfl := Option.some.inj H; go_enter Tryd.func21, Tryd.ntmps21; go_wp2; go_ret; exact ⟨by first | rfl | (simp <;> rfl) | (simp [*] <;> rfl), by (with_reducible repeat first | exact HB.out | apply zH | apply zF | apply zG) <;> exact HB.out⟩
def spec_AfterBeginning.f (k : Nat) (l0 : List (S27)) : Option (ByteArray × ByteArray × Bool) := (spec_l4Row.f k l0).bind fun t10 => (if t10 = true then ((spec_l4RowBytes.f k l0).bind fun t11 => (if t11.size + 1 ≤ 9223372036854775807 then (some (t11, t11 ++ (⟨#[255]⟩ : ByteArray), true)) else (none))) else (some ((⟨#[]⟩ : ByteArray), (⟨#[]⟩ : ByteArray), false)))
theorem spec_AfterBeginning.calls (k : Nat) (A0 : Option Addr) (c0 : Nat) (l0 : List (S27)) (r1 : ByteArray) (r2 : ByteArray) (r3 : Bool) (w : World) (hr0 : Kd.C k27 w A0 l0.length l0) (hc0 : l0.length ≤ c0) (h : spec_AfterBeginning.f k l0 = some (r1, r2, r3)) :
  Calls Tryd.prog 22 #[.slice A0 l0.length c0] w fun e w' => e = .returned (.tuple #[.string r1, .string r2, .bool r3]) ∧ Below w.heap.size w w' := by
 have HR0 := zA hr0; have HC0 := zA hc0; clear hr0 hc0; have HB := zA (Below.refl w.heap.size w); have H : ((spec_l4Row.f k l0).bind fun t10 => (if t10 = true then ((spec_l4RowBytes.f k l0).bind fun t11 => (if t11.size + 1 ≤ 9223372036854775807 then (some (t11, t11 ++ (⟨#[255]⟩ : ByteArray), true)) else (none))) else (some ((⟨#[]⟩ : ByteArray), (⟨#[]⟩ : ByteArray), false)))) = some (r1, r2, r3) := h; clear h; replace H := zAF H; obtain ⟨t10, A20, H⟩ := H; replace H : (if t10 = true then ((spec_l4RowBytes.f k l0).bind fun t11 => (if t11.size + 1 ≤ 9223372036854775807 then (some (t11, t11 ++ (⟨#[255]⟩ : ByteArray), true)) else (none))) else (some ((⟨#[]⟩ : ByteArray), (⟨#[]⟩ : ByteArray), false))) = some (r1, r2, r3) := H; have A2 := zA A20; clear A20
 by_cases c3 : t10 = true
 ·subst c3
  have H1 : ((spec_l4RowBytes.f k l0).bind fun t11 => (if t11.size + 1 ≤ 9223372036854775807 then (some (t11, t11 ++ (⟨#[255]⟩ : ByteArray), true)) else (none))) = some (r1, r2, r3) := by rw [if_pos rfl] at H; exact H
  clear H; have H := H1; clear H1; replace H := zAF H; obtain ⟨t11, A40, H⟩ := H; replace H : (if t11.size + 1 ≤ 9223372036854775807 then (some (t11, t11 ++ (⟨#[255]⟩ : ByteArray), true)) else (none)) = some (r1, r2, r3) := H; have A4 := zA A40; clear A40
  by_cases c5 : t11.size + 1 ≤ 9223372036854775807
  ·rw [if_pos c5] at H
   have c5b0 := eq_true c5; have c5b1 : decide (t11.size + 1 ≤ 9223372036854775807) = true := zX c5
   try have c5b2 : (9223372036854775807 < t11.size + 1) = False := eq_false (Nat.not_lt.2 c5)
   simp only [Option.some.injEq, Prod.mk.injEq] at H; obtain ⟨rfl, rfl, rfl⟩ := H; go_enter Tryd.func22, Tryd.ntmps22; go_wp2_with (first | ((with_reducible refine yB (f := 46) rfl ?_); refine goesL_ (some 7) rfl rfl Tryd.func46 (by kernel_rfl) rfl #[.slice A0 l0.length c0] rfl (by (try simp only [zAA, zAB, zAC]); first | done | rfl | (simp only [zZ, zY]; rfl)) ?_; (with_reducible refine (spec_l4Row.calls k _ _ l0 true _ ?side1 ?side2 A2.out).mono ?_); (case side1 => repeat (first | exact HR0.out | (with_reducible refine zT ?_ _) | (with_reducible refine zU ?_ _) | (with_reducible refine zV ?_))); (case side2 => exact HC0.out); rintro e w6 ⟨rfl, hb⟩; refine ⟨_, rfl, ?_⟩; have n0_ := zA (zAD (by (with_reducible repeat first | exact HB.out | apply zH | apply zF | apply zG) <;> exact HB.out) hb); clear HB; have HB := n0_; clear n0_; (try clear hb)) | ((with_reducible refine yB (f := 47) rfl ?_); refine goesL_ (some 10) rfl rfl Tryd.func47 (by kernel_rfl) rfl #[.slice A0 l0.length c0] rfl (by (try simp only [zAA, zAB, zAC]); first | done | rfl | (simp only [zZ, zY]; rfl)) ?_; (with_reducible refine (spec_l4RowBytes.calls k _ _ l0 t11 _ ?side1 ?side2 A4.out).mono ?_); (case side1 => repeat (first | exact (Kd.C_below HR0.out HB.out) | (with_reducible refine zT ?_ _) | (with_reducible refine zU ?_ _) | (with_reducible refine zV ?_))); (case side2 => exact HC0.out); rintro e w7 ⟨rfl, hb⟩; refine ⟨_, rfl, ?_⟩; have n0_ := zA (zAD (by (with_reducible repeat first | exact HB.out | apply zH | apply zF | apply zG) <;> exact HB.out) hb); clear HB; have HB := n0_; clear n0_; (try clear hb))); go_ret3; exact ⟨by first | rfl | (simp <;> rfl) | (simp [*] <;> rfl), by (with_reducible repeat first | exact HB.out | apply zH | apply zF | apply zG) <;> exact HB.out⟩
  ·rw [if_neg c5] at H
   exact absurd H (by simp)
 ·replace c3 := Bool.eq_false_iff.mpr c3
  subst c3; have H1 : (some ((⟨#[]⟩ : ByteArray), (⟨#[]⟩ : ByteArray), false)) = some (r1, r2, r3) := by rw [if_neg (show ¬ (false = true) by decide)] at H; exact H
  clear H; have H := H1; clear H1; simp only [Option.some.injEq, Prod.mk.injEq] at H; obtain ⟨rfl, rfl, rfl⟩ := H; go_enter Tryd.func22, Tryd.ntmps22; go_wp2_with (first | ((with_reducible refine yB (f := 46) rfl ?_); refine goesL_ (some 7) rfl rfl Tryd.func46 (by kernel_rfl) rfl #[.slice A0 l0.length c0] rfl (by (try simp only [zAA, zAB, zAC]); first | done | rfl | (simp only [zZ, zY]; rfl)) ?_; (with_reducible refine (spec_l4Row.calls k _ _ l0 false _ ?side1 ?side2 A2.out).mono ?_); (case side1 => repeat (first | exact HR0.out | (with_reducible refine zT ?_ _) | (with_reducible refine zU ?_ _) | (with_reducible refine zV ?_))); (case side2 => exact HC0.out); rintro e w8 ⟨rfl, hb⟩; refine ⟨_, rfl, ?_⟩; have n0_ := zA (zAD (by (with_reducible repeat first | exact HB.out | apply zH | apply zF | apply zG) <;> exact HB.out) hb); clear HB; have HB := n0_; clear n0_; (try clear hb))); go_ret3; exact ⟨by first | rfl | (simp <;> rfl) | (simp [*] <;> rfl), by (with_reducible repeat first | exact HB.out | apply zH | apply zF | apply zG) <;> exact HB.out⟩
def impl_AfterBeginning.f (k : Nat) (l0 : List (S27)) : Option (ByteArray × ByteArray × Bool) := (impl_RowBytes.f k l0).bind fun bt10 => (if bt10.2 = true then (if bt10.1.size + 1 ≤ 9223372036854775807 then (some (bt10.1, bt10.1 ++ (⟨#[255]⟩ : ByteArray), true)) else (none)) else (some ((⟨#[]⟩ : ByteArray), (⟨#[]⟩ : ByteArray), false)))
theorem impl_AfterBeginning.calls (k : Nat) (A0 : Option Addr) (c0 : Nat) (l0 : List (S27)) (r1 : ByteArray) (r2 : ByteArray) (r3 : Bool) (w : World) (hr0 : Kd.C k27 w A0 l0.length l0) (hc0 : l0.length ≤ c0) (h : impl_AfterBeginning.f k l0 = some (r1, r2, r3)) :
  Calls Tryd.prog 23 #[.slice A0 l0.length c0] w fun e w' => e = .returned (.tuple #[.string r1, .string r2, .bool r3]) ∧ Below w.heap.size w w' := by
 have HR0 := zA hr0; have HC0 := zA hc0; clear hr0 hc0; have HB := zA (Below.refl w.heap.size w); have H : ((impl_RowBytes.f k l0).bind fun bt10 => (if bt10.2 = true then (if bt10.1.size + 1 ≤ 9223372036854775807 then (some (bt10.1, bt10.1 ++ (⟨#[255]⟩ : ByteArray), true)) else (none)) else (some ((⟨#[]⟩ : ByteArray), (⟨#[]⟩ : ByteArray), false)))) = some (r1, r2, r3) := h; clear h; replace H := zAF H; obtain ⟨⟨t10, t11⟩, A20, H⟩ := H; replace H : (if t11 = true then (if t10.size + 1 ≤ 9223372036854775807 then (some (t10, t10 ++ (⟨#[255]⟩ : ByteArray), true)) else (none)) else (some ((⟨#[]⟩ : ByteArray), (⟨#[]⟩ : ByteArray), false))) = some (r1, r2, r3) := H; have A2 := zA A20; clear A20
 by_cases c3 : t11 = true
 ·subst c3
  have H1 : (if t10.size + 1 ≤ 9223372036854775807 then (some (t10, t10 ++ (⟨#[255]⟩ : ByteArray), true)) else (none)) = some (r1, r2, r3) := by rw [if_pos rfl] at H; exact H
  clear H; have H := H1; clear H1
  by_cases c4 : t10.size + 1 ≤ 9223372036854775807
  ·rw [if_pos c4] at H
   have c4b0 := eq_true c4; have c4b1 : decide (t10.size + 1 ≤ 9223372036854775807) = true := zX c4
   try have c4b2 : (9223372036854775807 < t10.size + 1) = False := eq_false (Nat.not_lt.2 c4)
   simp only [Option.some.injEq, Prod.mk.injEq] at H; obtain ⟨rfl, rfl, rfl⟩ := H; go_enter Tryd.func23, Tryd.ntmps23; go_wp2_with (first | ((with_reducible refine yB (f := 20) rfl ?_); refine goesL_ (some 9) rfl rfl Tryd.func20 (by kernel_rfl) rfl #[.slice A0 l0.length c0] rfl (by (try simp only [zAA, zAB, zAC]); first | done | rfl | (simp only [zZ, zY]; rfl)) ?_; (with_reducible refine (impl_RowBytes.calls k _ _ l0 t10 true _ ?side1 ?side2 A2.out).mono ?_); (case side1 => repeat (first | exact HR0.out | (with_reducible refine zT ?_ _) | (with_reducible refine zU ?_ _) | (with_reducible refine zV ?_))); (case side2 => exact HC0.out); rintro e w5 ⟨rfl, hb⟩; refine ⟨_, rfl, ?_⟩; have n0_ := zA (zAD (by (with_reducible repeat first | exact HB.out | apply zH | apply zF | apply zG) <;> exact HB.out) hb); clear HB; have HB := n0_; clear n0_; (try clear hb))); go_ret3; exact ⟨by first | rfl | (simp <;> rfl) | (simp [*] <;> rfl), by (with_reducible repeat first | exact HB.out | apply zH | apply zF | apply zG) <;> exact HB.out⟩
  ·rw [if_neg c4] at H
   exact absurd H (by simp)
 ·replace c3 := Bool.eq_false_iff.mpr c3
  subst c3; have H1 : (some ((⟨#[]⟩ : ByteArray), (⟨#[]⟩ : ByteArray), false)) = some (r1, r2, r3) := by rw [if_neg (show ¬ (false = true) by decide)] at H; exact H
  clear H; have H := H1; clear H1; simp only [Option.some.injEq, Prod.mk.injEq] at H; obtain ⟨rfl, rfl, rfl⟩ := H; go_enter Tryd.func23, Tryd.ntmps23; go_wp2_with (first | ((with_reducible refine yB (f := 20) rfl ?_); refine goesL_ (some 9) rfl rfl Tryd.func20 (by kernel_rfl) rfl #[.slice A0 l0.length c0] rfl (by (try simp only [zAA, zAB, zAC]); first | done | rfl | (simp only [zZ, zY]; rfl)) ?_; (with_reducible refine (impl_RowBytes.calls k _ _ l0 t10 false _ ?side1 ?side2 A2.out).mono ?_); (case side1 => repeat (first | exact HR0.out | (with_reducible refine zT ?_ _) | (with_reducible refine zU ?_ _) | (with_reducible refine zV ?_))); (case side2 => exact HC0.out); rintro e w6 ⟨rfl, hb⟩; refine ⟨_, rfl, ?_⟩; have n0_ := zA (zAD (by (with_reducible repeat first | exact HB.out | apply zH | apply zF | apply zG) <;> exact HB.out) hb); clear HB; have HB := n0_; clear n0_; (try clear hb))); go_ret3; exact ⟨by first | rfl | (simp <;> rfl) | (simp [*] <;> rfl), by (with_reducible repeat first | exact HB.out | apply zH | apply zF | apply zG) <;> exact HB.out⟩
def laws_FnExactAfterBeginning.j0 : Nat → List (S23) → List (S27) → Bool → Option (Bool)
 | 0, _, _, _ => none
 | k + 1, x0, x7, x43 => if x43 = true then (some false) else ((laws_toValueS.f k x0).bind fun t10 => ((laws_eqValueS.f k x7 t10).bind fun t11 => (if t11 = true then (some true) else (some false))))
def laws_FnExactAfterBeginning.f (k : Nat) (l0 : List (S23)) : Option (Bool) := (laws_szValueS.f k l0 1048576).bind fun t10 => (if t10 < 0 then (some true) else ((laws_toValueS.f k l0).bind fun t11 => ((spec_AfterBeginning.f k t11).bind fun bt12 => ((laws_toValueS.f k l0).bind fun t13 => ((impl_AfterBeginning.f k t13).bind fun bt14 => (if bt14.1.toList = bt12.1.toList then (if bt14.2.1.toList = bt12.2.1.toList then (laws_FnExactAfterBeginning.j0 k l0 t13 (bt14.2.2 != bt12.2.2)) else (laws_FnExactAfterBeginning.j0 k l0 t13 true)) else (laws_FnExactAfterBeginning.j0 k l0 t13 true)))))))
theorem laws_FnExactAfterBeginning.calls (k : Nat) (A0 : Option Addr) (c0 : Nat) (l0 : List (S23)) (r : Bool) (w : World) (hr0 : Kd.C k23 w A0 l0.length l0) (hc0 : l0.length ≤ c0) (h : laws_FnExactAfterBeginning.f k l0 = some r) :
  Calls Tryd.prog 6 #[.slice A0 l0.length c0] w fun e w' => e = .returned (.bool r) ∧ Below w.heap.size w w' := by
 have HR0 := zA hr0; have HC0 := zA hc0; clear hr0 hc0; have HB := zA (Below.refl w.heap.size w); have H : ((laws_szValueS.f k l0 1048576).bind fun t29 => (if t29 < 0 then (some true) else ((laws_toValueS.f k l0).bind fun t30 => ((spec_AfterBeginning.f k t30).bind fun bt31 => ((laws_toValueS.f k l0).bind fun t33 => ((impl_AfterBeginning.f k t33).bind fun bt34 => (if bt34.1.toList = bt31.1.toList then (if bt34.2.1.toList = bt31.2.1.toList then (laws_FnExactAfterBeginning.j0 k l0 t33 (bt34.2.2 != bt31.2.2)) else (laws_FnExactAfterBeginning.j0 k l0 t33 true)) else (laws_FnExactAfterBeginning.j0 k l0 t33 true)))))))) = some r := h; clear h; replace H := zAF H; obtain ⟨t29, A20, H⟩ := H; replace H : (if t29 < 0 then (some true) else ((laws_toValueS.f k l0).bind fun t30 => ((spec_AfterBeginning.f k t30).bind fun bt31 => ((laws_toValueS.f k l0).bind fun t33 => ((impl_AfterBeginning.f k t33).bind fun bt34 => (if bt34.1.toList = bt31.1.toList then (if bt34.2.1.toList = bt31.2.1.toList then (laws_FnExactAfterBeginning.j0 k l0 t33 (bt34.2.2 != bt31.2.2)) else (laws_FnExactAfterBeginning.j0 k l0 t33 true)) else (laws_FnExactAfterBeginning.j0 k l0 t33 true))))))) = some r := H; have A2 := zA A20; clear A20
 by_cases c3 : t29 < 0
 ·rw [if_pos c3] at H
  have c3b0 : decide (t29 < 0) = true := zX c3; clear c3; obtain rfl := Option.some.inj H; go_enter Tryd.func6, Tryd.ntmps6; go_wp2_with (first | ((with_reducible refine yB (f := 17) rfl ?_); refine goesL_ (some 13) rfl rfl Tryd.func17 (by kernel_rfl) rfl #[.slice A0 l0.length c0, .int .i64 1048576] rfl (by (try simp only [zAA, zAB, zAC]); first | done | rfl | (simp only [zZ, zY]; rfl)) ?_; (with_reducible refine (laws_szValueS.calls k _ _ l0 1048576 t29 _ ?side1 ?side2 A2.out).mono ?_); (case side1 => repeat (first | exact HR0.out | (with_reducible refine zT ?_ _) | (with_reducible refine zU ?_ _) | (with_reducible refine zV ?_))); (case side2 => exact HC0.out); rintro e w4 ⟨rfl, hb⟩; refine ⟨_, rfl, ?_⟩; have n0_ := zA (zAD (by (with_reducible repeat first | exact HB.out | apply zH | apply zF | apply zG) <;> exact HB.out) hb); clear HB; have HB := n0_; clear n0_; (try clear hb))); go_ret; exact ⟨by first | rfl | (simp <;> rfl) | (simp [*] <;> rfl), by (with_reducible repeat first | exact HB.out | apply zH | apply zF | apply zG) <;> exact HB.out⟩
 ·rw [if_neg c3] at H
  have c3b0 : decide (t29 < 0) = false := decide_eq_false c3; clear c3; replace H := zAF H; obtain ⟨t30, A50, H⟩ := H; replace H : ((spec_AfterBeginning.f k t30).bind fun bt31 => ((laws_toValueS.f k l0).bind fun t33 => ((impl_AfterBeginning.f k t33).bind fun bt34 => (if bt34.1.toList = bt31.1.toList then (if bt34.2.1.toList = bt31.2.1.toList then (laws_FnExactAfterBeginning.j0 k l0 t33 (bt34.2.2 != bt31.2.2)) else (laws_FnExactAfterBeginning.j0 k l0 t33 true)) else (laws_FnExactAfterBeginning.j0 k l0 t33 true))))) = some r := H; have A5 := zA A50; clear A50; replace H := zAF H; obtain ⟨⟨t31, t35, t36⟩, A60, H⟩ := H; replace H : ((laws_toValueS.f k l0).bind fun t33 => ((impl_AfterBeginning.f k t33).bind fun bt34 => (if bt34.1.toList = t31.toList then (if bt34.2.1.toList = t35.toList then (laws_FnExactAfterBeginning.j0 k l0 t33 (bt34.2.2 != t36)) else (laws_FnExactAfterBeginning.j0 k l0 t33 true)) else (laws_FnExactAfterBeginning.j0 k l0 t33 true)))) = some r := H; have A6 := zA A60; clear A60; replace H := zAF H; obtain ⟨t33, A70, H⟩ := H; replace H : ((impl_AfterBeginning.f k t33).bind fun bt34 => (if bt34.1.toList = t31.toList then (if bt34.2.1.toList = t35.toList then (laws_FnExactAfterBeginning.j0 k l0 t33 (bt34.2.2 != t36)) else (laws_FnExactAfterBeginning.j0 k l0 t33 true)) else (laws_FnExactAfterBeginning.j0 k l0 t33 true))) = some r := H; have A7 := zA A70; clear A70; replace H := zAF H; obtain ⟨⟨t34, t37, t38⟩, A80, H⟩ := H; replace H : (if t34.toList = t31.toList then (if t37.toList = t35.toList then (laws_FnExactAfterBeginning.j0 k l0 t33 (t38 != t36)) else (laws_FnExactAfterBeginning.j0 k l0 t33 true)) else (laws_FnExactAfterBeginning.j0 k l0 t33 true)) = some r := H; have A8 := zA A80; clear A80; have HC9 := zA H; clear H; go_enter Tryd.func6, Tryd.ntmps6; go_upto_region 8 with (first | ((with_reducible refine yB (f := 17) rfl ?_); refine goesL_ (some 13) rfl rfl Tryd.func17 (by kernel_rfl) rfl #[.slice A0 l0.length c0, .int .i64 1048576] rfl (by (try simp only [zAA, zAB, zAC]); first | done | rfl | (simp only [zZ, zY]; rfl)) ?_; (with_reducible refine (laws_szValueS.calls k _ _ l0 1048576 t29 _ ?side1 ?side2 A2.out).mono ?_); (case side1 => repeat (first | exact HR0.out | (with_reducible refine zT ?_ _) | (with_reducible refine zU ?_ _) | (with_reducible refine zV ?_))); (case side2 => exact HC0.out); rintro e w10 ⟨rfl, hb⟩; refine ⟨_, rfl, ?_⟩; have n0_ := zA (zAD (by (with_reducible repeat first | exact HB.out | apply zH | apply zF | apply zG) <;> exact HB.out) hb); clear HB; have HB := n0_; clear n0_; (try clear hb)) | ((with_reducible refine yB (f := 19) rfl ?_); refine goesL_ (some 18) rfl rfl Tryd.func19 (by kernel_rfl) rfl #[.slice A0 l0.length c0] rfl (by (try simp only [zAA, zAB, zAC]); first | done | rfl | (simp only [zZ, zY]; rfl)) ?_; (with_reducible refine (laws_toValueS.calls k _ _ l0 t30 _ ?side1 ?side2 A5.out).mono ?_); (case side1 => repeat (first | exact (Kd.C_below HR0.out HB.out) | (with_reducible refine zT ?_ _) | (with_reducible refine zU ?_ _) | (with_reducible refine zV ?_))); (case side2 => exact HC0.out); rintro e w11 ⟨v39, rfl, ho0, hb⟩; refine ⟨_, rfl, ?_⟩; have n0_ := zA (Kd.R_lower ho0 (zAE (by (with_reducible repeat first | exact HB.out | apply zH | apply zF | apply zG) <;> exact HB.out))); have n1_ := zA (zAD (by (with_reducible repeat first | exact HB.out | apply zH | apply zF | apply zG) <;> exact HB.out) hb); clear HB; have HO40 := n0_; have HB := n1_; clear n0_ n1_; (try clear hb); (try clear ho0); obtain ⟨Ao12, co12, eo12⟩ := Kd.R_slice HO40.out; subst eo12) | ((with_reducible refine yB (f := 22) rfl ?_); refine goesL_ (some 19) rfl rfl Tryd.func22 (by kernel_rfl) rfl #[.slice Ao12 t30.length co12] rfl (by (try simp only [zAA, zAB, zAC]); first | done | rfl | (simp only [zZ, zY]; rfl)) ?_; (with_reducible refine (spec_AfterBeginning.calls k _ _ t30 t31 t35 t36 _ ?side1 ?side2 A6.out).mono ?_); (case side1 => repeat (first | exact (yD HO40.out).2.2 | (with_reducible refine zT ?_ _) | (with_reducible refine zU ?_ _) | (with_reducible refine zV ?_))); (case side2 => exact (yD HO40.out).2.1); rintro e w13 ⟨rfl, hb⟩; refine ⟨_, rfl, ?_⟩; have n0_ := zA (Kd.R_below (by (with_reducible repeat first | apply zQ | apply zR | apply zS); exact HO40.out) hb); have n1_ := zA (zAD (by (with_reducible repeat first | exact HB.out | apply zH | apply zF | apply zG) <;> exact HB.out) hb); clear HO40; clear HB; have HO40 := n0_; have HB := n1_; clear n0_ n1_; (try clear hb)) | ((with_reducible refine yB (f := 19) rfl ?_); refine goesL_ (some 24) rfl rfl Tryd.func19 (by kernel_rfl) rfl #[.slice A0 l0.length c0] rfl (by (try simp only [zAA, zAB, zAC]); first | done | rfl | (simp only [zZ, zY]; rfl)) ?_; (with_reducible refine (laws_toValueS.calls k _ _ l0 t33 _ ?side1 ?side2 A7.out).mono ?_); (case side1 => repeat (first | exact (Kd.C_below HR0.out HB.out) | (with_reducible refine zT ?_ _) | (with_reducible refine zU ?_ _) | (with_reducible refine zV ?_))); (case side2 => exact HC0.out); rintro e w14 ⟨v41, rfl, ho0, hb⟩; refine ⟨_, rfl, ?_⟩; have n0_ := zA (yJ (by (with_reducible repeat first | apply zQ | apply zR | apply zS); exact HO40.out) (Kd.R_base ho0) hb); have n1_ := zA (Kd.R_lower (yK ho0 (Kd.R_lt (by (with_reducible repeat first | apply zQ | apply zR | apply zS); exact HO40.out))) (zAE (by (with_reducible repeat first | exact HB.out | apply zH | apply zF | apply zG) <;> exact HB.out))); have n2_ := zA (zAD (by (with_reducible repeat first | exact HB.out | apply zH | apply zF | apply zG) <;> exact HB.out) hb); clear HO40; clear HB; have HO40 := n0_; have HO42 := n1_; have HB := n2_; clear n0_ n1_ n2_; (try clear hb); (try clear ho0); obtain ⟨Ao15, co15, eo15⟩ := Kd.R_slice HO42.out; subst eo15) | ((with_reducible refine yB (f := 23) rfl ?_); refine goesL_ (some 27) rfl rfl Tryd.func23 (by kernel_rfl) rfl #[.slice Ao15 t33.length co15] rfl (by (try simp only [zAA, zAB, zAC]); first | done | rfl | (simp only [zZ, zY]; rfl)) ?_; (with_reducible refine (impl_AfterBeginning.calls k _ _ t33 t34 t37 t38 _ ?side1 ?side2 A8.out).mono ?_); (case side1 => repeat (first | exact (yD HO42.out).2.2 | (with_reducible refine zT ?_ _) | (with_reducible refine zU ?_ _) | (with_reducible refine zV ?_))); (case side2 => exact (yD HO42.out).2.1); rintro e w16 ⟨rfl, hb⟩; refine ⟨_, rfl, ?_⟩; have n0_ := zA (Kd.R_below (by (with_reducible repeat first | apply zQ | apply zR | apply zS); exact HO40.out) hb); have n1_ := zA (Kd.R_below (by (with_reducible repeat first | apply zQ | apply zR | apply zS); exact HO42.out) hb); have n2_ := zA (zAD (by (with_reducible repeat first | exact HB.out | apply zH | apply zF | apply zG) <;> exact HB.out) hb); clear HO40; clear HO42; clear HB; have HO40 := n0_; have HO42 := n1_; have HB := n2_; clear n0_ n1_ n2_; (try clear hb)))
  (try simp only [Act.put, zC, zD, zE]); go_cut [43] (fun v43 wc => ∃ (kq : Nat) (x43_8 : Bool), v43 = .bool x43_8 ∧ Aside0 (laws_FnExactAfterBeginning.j0 kq l0 t33 x43_8 = some r) ∧ Aside0 (kq ≤ k) ∧ Aside0 (Kd.R k27 27 wc w.heap.size (fun _ => True) (.slice Ao15 t33.length co15) t33) ∧ Aside0 (Below w.heap.size w wc))
  case first =>
   have H := HC9.out; clear HC9
   by_cases c17 : t34.toList = t31.toList
   ·rw [if_pos c17] at H
    have c17b0 : (t34.toList == t31.toList) = true := beq_iff_eq.mpr c17; have c17b1 : (t34.toList != t31.toList) = false := bne_eq_false_iff_eq.mpr c17; clear c17; (first | rw [c17b0] | (simp only [i64_w, i32_w]; rw [c17b0]) | skip)
    by_cases c18 : t37.toList = t35.toList
    ·rw [if_pos c18] at H
     have c18b0 : (t37.toList == t35.toList) = true := beq_iff_eq.mpr c18; have c18b1 : (t37.toList != t35.toList) = false := bne_eq_false_iff_eq.mpr c18; clear c18; have H' := zA H; clear H; go_wp2; go_meet
     case rel => exact ⟨_, ((t38 != t36)), (by first | rfl | (simp; done) | (simp [*]; done) | (simp [bne]; done)), H', ⟨by first | omega | exact Nat.le_refl _⟩, ⟨by (with_reducible repeat first | apply zQ | apply zR | apply zS); exact yC HO42.out (fun _ hk => trivial)⟩, ⟨by (with_reducible repeat first | exact HB.out | apply zH | apply zF | apply zG) <;> exact HB.out⟩⟩
    ·rw [if_neg c18] at H
     have c18b0 : (t37.toList == t35.toList) = false := beq_eq_false_iff_ne.mpr c18; have c18b1 : (t37.toList != t35.toList) = true := bne_iff_ne.mpr c18; have H' := zA H; clear H; go_wp2; go_meet
     case rel => exact ⟨_, (true), (by first | rfl | (simp; done) | (simp [*]; done) | (simp [bne]; done)), H', ⟨by first | omega | exact Nat.le_refl _⟩, ⟨by (with_reducible repeat first | apply zQ | apply zR | apply zS); exact yC HO42.out (fun _ hk => trivial)⟩, ⟨by (with_reducible repeat first | exact HB.out | apply zH | apply zF | apply zG) <;> exact HB.out⟩⟩
   ·rw [if_neg c17] at H
    have c17b0 : (t34.toList == t31.toList) = false := beq_eq_false_iff_ne.mpr c17; have c17b1 : (t34.toList != t31.toList) = true := bne_iff_ne.mpr c17; (first | rw [c17b0] | (simp only [i64_w, i32_w]; rw [c17b0]) | skip); have H' := zA H; clear H; go_wp2; go_meet
    case rel => exact ⟨_, (true), (by first | rfl | (simp; done) | (simp [*]; done) | (simp [bne]; done)), H', ⟨by first | omega | exact Nat.le_refl _⟩, ⟨by (with_reducible repeat first | apply zQ | apply zR | apply zS); exact yC HO42.out (fun _ hk => trivial)⟩, ⟨by (with_reducible repeat first | exact HB.out | apply zH | apply zF | apply zG) <;> exact HB.out⟩⟩
  case rest =>
   clear HC9
   try clear c1
   try clear c2
   try clear p2
   try clear c3
   try clear c3b0
   try clear c6
   try clear c17
   try clear c17b0
   try clear c17b1
   try clear c18
   try clear c18b0
   try clear c18b1
   obtain ⟨kq, x43_8, rfl, HA, HJ8, HO_7, HB⟩ := hcut
   cases kq with
   | zero => exact absurd HA.out (by simp [laws_FnExactAfterBeginning.j0])
   | succ kj8 =>
    have H := HA.out; clear HA; simp only [laws_FnExactAfterBeginning.j0] at H
    by_cases c19 : x43_8 = true
    ·subst c19
     have H1 : (some false) = some r := by rw [if_pos rfl] at H; exact H
     clear H; have H := H1; clear H1; obtain rfl := Option.some.inj H; go_wp2; go_ret; exact ⟨by first | rfl | (simp <;> rfl) | (simp [*] <;> rfl), by (with_reducible repeat first | exact HB.out | apply zH | apply zF | apply zG) <;> exact HB.out⟩
    ·replace c19 := Bool.eq_false_iff.mpr c19
     subst c19; have H1 : ((laws_toValueS.f kj8 l0).bind fun t44 => ((laws_eqValueS.f kj8 t33 t44).bind fun t45 => (if t45 = true then (some true) else (some false)))) = some r := by rw [if_neg (show ¬ (false = true) by decide)] at H; exact H
     clear H; have H := H1; clear H1; replace H := zAF H; obtain ⟨t44, A46, H⟩ := H; replace H : ((laws_eqValueS.f kj8 t33 t44).bind fun t45 => (if t45 = true then (some true) else (some false))) = some r := H; have A20 := zA A46; clear A46; replace H := zAF H; obtain ⟨t45, A47, H⟩ := H; replace H : (if t45 = true then (some true) else (some false)) = some r := H; have A21 := zA A47; clear A47
     by_cases c22 : t45 = true
     ·subst c22
      have H1 : (some true) = some r := by rw [if_pos rfl] at H; exact H
      clear H; have H := H1; clear H1; obtain rfl := Option.some.inj H; go_wp2_with (first | ((with_reducible refine yB (f := 19) rfl ?_); refine goesL_ (some 46) rfl rfl Tryd.func19 (by kernel_rfl) rfl #[.slice A0 l0.length c0] rfl (by (try simp only [zAA, zAB, zAC]); first | done | rfl | (simp only [zZ, zY]; rfl)) ?_; (with_reducible refine (laws_toValueS.calls kj8 _ _ l0 t44 _ ?side1 ?side2 A20.out).mono ?_); (case side1 => repeat (first | exact (Kd.C_below HR0.out HB.out) | (with_reducible refine zT ?_ _) | (with_reducible refine zU ?_ _) | (with_reducible refine zV ?_))); (case side2 => exact HC0.out); rintro e w23 ⟨v48, rfl, ho0, hb⟩; refine ⟨_, rfl, ?_⟩; have n0_ := zA (yJ (by (with_reducible repeat first | apply zQ | apply zR | apply zS); exact HO_7.out) (Kd.R_base ho0) hb); have n1_ := zA (Kd.R_lower (yK ho0 (Kd.R_lt (by (with_reducible repeat first | apply zQ | apply zR | apply zS); exact HO_7.out))) (zAE (by (with_reducible repeat first | exact HB.out | apply zH | apply zF | apply zG) <;> exact HB.out))); have n2_ := zA (zAD (by (with_reducible repeat first | exact HB.out | apply zH | apply zF | apply zG) <;> exact HB.out) hb); clear HO_7; clear HB; have HO_7 := n0_; have HO49 := n1_; have HB := n2_; clear n0_ n1_ n2_; (try clear hb); (try clear ho0); obtain ⟨Ao24, co24, eo24⟩ := Kd.R_slice HO49.out; subst eo24) | ((with_reducible refine yB (f := 21) rfl ?_); refine goesL_ (some 47) rfl rfl Tryd.func21 (by kernel_rfl) rfl #[.slice Ao15 t33.length co15, .slice Ao24 t44.length co24] rfl (by (try simp only [zAA, zAB, zAC]); first | done | rfl | (simp only [zZ, zY]; rfl)) ?_; (with_reducible refine (laws_eqValueS.calls kj8 _ _ t33 _ _ t44 true _ ?side1 ?side2 ?side3 ?side4 A21.out).mono ?_); (case side1 => repeat (first | exact (yD HO_7.out).2.2 | (with_reducible refine zT ?_ _) | (with_reducible refine zU ?_ _) | (with_reducible refine zV ?_))); (case side2 => exact (yD HO_7.out).2.1); (case side3 => repeat (first | exact (yD HO49.out).2.2 | (with_reducible refine zT ?_ _) | (with_reducible refine zU ?_ _) | (with_reducible refine zV ?_))); (case side4 => exact (yD HO49.out).2.1); rintro e w25 ⟨rfl, hb⟩; refine ⟨_, rfl, ?_⟩; have n0_ := zA (Kd.R_below (by (with_reducible repeat first | apply zQ | apply zR | apply zS); exact HO_7.out) hb); have n1_ := zA (Kd.R_below (by (with_reducible repeat first | apply zQ | apply zR | apply zS); exact HO49.out) hb); have n2_ := zA (zAD (by (with_reducible repeat first | exact HB.out | apply zH | apply zF | apply zG) <;> exact HB.out) hb); clear HO_7; clear HO49; clear HB; have HO_7 := n0_; have HO49 := n1_; have HB := n2_; clear n0_ n1_ n2_; (try clear hb))); go_ret; exact ⟨by first | rfl | (simp <;> rfl) | (simp [*] <;> rfl), by (with_reducible repeat first | exact HB.out | apply zH | apply zF | apply zG) <;> exact HB.out⟩
     ·replace c22 := Bool.eq_false_iff.mpr c22
      subst c22; have H1 : (some false) = some r := by rw [if_neg (show ¬ (false = true) by decide)] at H; exact H
      clear H; have H := H1; clear H1; obtain rfl := Option.some.inj H; go_wp2_with (first | ((with_reducible refine yB (f := 19) rfl ?_); refine goesL_ (some 46) rfl rfl Tryd.func19 (by kernel_rfl) rfl #[.slice A0 l0.length c0] rfl (by (try simp only [zAA, zAB, zAC]); first | done | rfl | (simp only [zZ, zY]; rfl)) ?_; (with_reducible refine (laws_toValueS.calls kj8 _ _ l0 t44 _ ?side1 ?side2 A20.out).mono ?_); (case side1 => repeat (first | exact (Kd.C_below HR0.out HB.out) | (with_reducible refine zT ?_ _) | (with_reducible refine zU ?_ _) | (with_reducible refine zV ?_))); (case side2 => exact HC0.out); rintro e w26 ⟨v48, rfl, ho0, hb⟩; refine ⟨_, rfl, ?_⟩; have n0_ := zA (yJ (by (with_reducible repeat first | apply zQ | apply zR | apply zS); exact HO_7.out) (Kd.R_base ho0) hb); have n1_ := zA (Kd.R_lower (yK ho0 (Kd.R_lt (by (with_reducible repeat first | apply zQ | apply zR | apply zS); exact HO_7.out))) (zAE (by (with_reducible repeat first | exact HB.out | apply zH | apply zF | apply zG) <;> exact HB.out))); have n2_ := zA (zAD (by (with_reducible repeat first | exact HB.out | apply zH | apply zF | apply zG) <;> exact HB.out) hb); clear HO_7; clear HB; have HO_7 := n0_; have HO49 := n1_; have HB := n2_; clear n0_ n1_ n2_; (try clear hb); (try clear ho0); obtain ⟨Ao27, co27, eo27⟩ := Kd.R_slice HO49.out; subst eo27) | ((with_reducible refine yB (f := 21) rfl ?_); refine goesL_ (some 47) rfl rfl Tryd.func21 (by kernel_rfl) rfl #[.slice Ao15 t33.length co15, .slice Ao27 t44.length co27] rfl (by (try simp only [zAA, zAB, zAC]); first | done | rfl | (simp only [zZ, zY]; rfl)) ?_; (with_reducible refine (laws_eqValueS.calls kj8 _ _ t33 _ _ t44 false _ ?side1 ?side2 ?side3 ?side4 A21.out).mono ?_); (case side1 => repeat (first | exact (yD HO_7.out).2.2 | (with_reducible refine zT ?_ _) | (with_reducible refine zU ?_ _) | (with_reducible refine zV ?_))); (case side2 => exact (yD HO_7.out).2.1); (case side3 => repeat (first | exact (yD HO49.out).2.2 | (with_reducible refine zT ?_ _) | (with_reducible refine zU ?_ _) | (with_reducible refine zV ?_))); (case side4 => exact (yD HO49.out).2.1); rintro e w28 ⟨rfl, hb⟩; refine ⟨_, rfl, ?_⟩; have n0_ := zA (Kd.R_below (by (with_reducible repeat first | apply zQ | apply zR | apply zS); exact HO_7.out) hb); have n1_ := zA (Kd.R_below (by (with_reducible repeat first | apply zQ | apply zR | apply zS); exact HO49.out) hb); have n2_ := zA (zAD (by (with_reducible repeat first | exact HB.out | apply zH | apply zF | apply zG) <;> exact HB.out) hb); clear HO_7; clear HO49; clear HB; have HO_7 := n0_; have HO49 := n1_; have HB := n2_; clear n0_ n1_ n2_; (try clear hb))); go_ret; exact ⟨by first | rfl | (simp <;> rfl) | (simp [*] <;> rfl), by (with_reducible repeat first | exact HB.out | apply zH | apply zF | apply zG) <;> exact HB.out⟩
end Go.Proofs.YthhkkhnjkoacnaaDoor.PA
end
section
namespace Go.Proofs.YthhkkhnjkoacnaaDoor.PB
open Go.RowKit Go.Proofs.YthhkkhnjkoacnaaDoorW.PrintWords Go.Proofs.YthhkkhnjkoacnaaDoorW.PrintLast Go.Proofs.YthhkkhnjkoacnaaDoorW.PrintMore
set_option linter.unusedVariables false
theorem ev_pos {α : Type} {c : Prop} [Decidable c] {f g : Nat → Option α} {r : α} (hc : c) (h : Ev f r) : Ev (fun k => if c then f k else g k) r := by
 simp only [if_pos hc]; exact h
theorem ev_neg {α : Type} {c : Prop} [Decidable c] {f g : Nat → Option α} {r : α} (hc : ¬ c) (h : Ev g r) : Ev (fun k => if c then f k else g k) r := by
 simp only [if_neg hc]; exact h
theorem ev_bind {α β : Type} {g : Nat → Option α} {f : Nat → α → Option β} {a : α} {r : β} (h : Ev g a) (k : Ev (fun n => f n a) r) : Ev (fun n => (g n).bind (f n)) r := Ev.bind h k
theorem ev_const {α β : Type} {o : Option α} {f : Nat → α → Option β} {a : α} {r : β} (h : o = some a) (k : Ev (fun n => f n a) r) : Ev (fun n => o.bind (f n)) r := by
 subst h; exact k
theorem ev_of_eq {α : Type} {o : Option α} {r : α} (h : o = some r) : Ev (fun _ => o) r := by subst h; exact Ev.now r
theorem ev_eq {α : Type} {f : Nat → Option α} {r r' : α} (h : Ev f r) (e : r = r') : Ev f r' := e ▸ h
theorem w64 {x : Int} (h0 : -9223372036854775808 ≤ x) (h1 : x ≤ 9223372036854775807) : wrap64 x = x := by
 unfold wrap64; omega
theorem ba_ext {a b : ByteArray} (h : a.toList = b.toList) : a = b := by
 rw [ByteArray.toList_eq, ByteArray.toList_eq] at h
 have h' : a.data = b.data := Array.toList_inj.mp h
 cases a; cases b; simp_all
theorem size_toList (s : ByteArray) : s.toList.length = s.size := by rw [ByteArray.toList_eq]; exact data_length s
theorem bt_get (s : ByteArray) (i : Nat) (h : i < s.size) : bt s (i : Int) = ((s.toList.getD i 0).toNat : Int) := by
 rw [ByteArray.toList_eq]
 unfold bt
 rw [dif_pos (by simpa using h)]
 have h' : i < s.data.toList.length := by rw [data_length]; exact h
 simp [List.getD_eq_getElem?_getD, List.getElem?_eq_getElem h']
 rfl
end Go.Proofs.YthhkkhnjkoacnaaDoor.PB
end
section
namespace Go.Proofs.YthhkkhnjkoacnaaDoor.PD
open Go.RowKit Go.Proofs.YthhkkhnjkoacnaaDoorW.PrintWords Go.Proofs.YthhkkhnjkoacnaaDoorW.PrintLast Go.Proofs.YthhkkhnjkoacnaaDoorW.PrintMore Go.Proofs.YthhkkhnjkoacnaaDoor.PB Go.Proofs.YthhkkhnjkoacnaaDoor.PA
set_option linter.unusedVariables false
theorem drop_at (l : List UInt8) (i : Nat) (h : i < l.length) : l.drop i = l.getD i 0 :: l.drop (i + 1) := by
 rw [List.drop_eq_getElem_cons h]; simp [List.getD_eq_getElem?_getD, List.getElem?_eq_getElem h]
def one (n : Int) : ByteArray := strOfNums [n % 256]
theorem one_size (n : Int) : (one n).size = 1 := by unfold one; rw [strOfNums_size]; rfl
theorem oneI (n : Int) : impl_oneByte.f n = some (one n) := rfl
end Go.Proofs.YthhkkhnjkoacnaaDoor.PD
end
section
namespace Go.Proofs.YthhkkhnjkoacnaaDoor.PK
open Go.RowKit Go.Proofs.YthhkkhnjkoacnaaDoorW.PrintWords Go.Proofs.YthhkkhnjkoacnaaDoorW.PrintLast Go.Proofs.YthhkkhnjkoacnaaDoorW.PrintMore Go.Proofs.YthhkkhnjkoacnaaDoor.PB Go.Proofs.YthhkkhnjkoacnaaDoor.PD Go.Proofs.YthhkkhnjkoacnaaDoor.PA
set_option linter.unusedVariables false
theorem app_size (a b : ByteArray) : (a ++ b).size = a.size + b.size := ByteArray.size_append
end Go.Proofs.YthhkkhnjkoacnaaDoor.PK
end
section
namespace Go.Proofs.YthhkkhnjkoacnaaDoor.PL
open Go.RowKit Go.Proofs.YthhkkhnjkoacnaaDoorW.PrintWords Go.Proofs.YthhkkhnjkoacnaaDoorW.PrintLast Go.Proofs.YthhkkhnjkoacnaaDoorW.PrintMore Go.Proofs.YthhkkhnjkoacnaaDoor.PB Go.Proofs.YthhkkhnjkoacnaaDoor.PA
set_option linter.unusedVariables false
def filled {α β : Type} (f : α → β) (z : β) (l : List α) (i : Nat) : List β := (l.take i).map f ++ List.replicate (l.length - i) z
theorem filled_length {α β : Type} (f : α → β) (z : β) (l : List α) (i : Nat) (h : i ≤ l.length) : (filled f z l i).length = l.length := by
 simp [filled, Nat.min_eq_left h]; omega
theorem filled_zero {α β : Type} (f : α → β) (z : β) (l : List α) : filled f z l 0 = List.replicate l.length z := by simp [filled]
theorem filled_all {α β : Type} (f : α → β) (z : β) (l : List α) : filled f z l l.length = l.map f := by simp [filled]
theorem filled_set {α β : Type} (f : α → β) (z : β) (l : List α) (i : Nat) (h : i < l.length) : (filled f z l i).set i (f l[i]) = filled f z l (i + 1) := by
 unfold filled
 rw [List.take_succ_eq_append_getElem h, List.map_append, List.map_cons, List.map_nil]
 have hl : ((l.take i).map f).length = i := by simp [Nat.min_eq_left (Nat.le_of_lt h)]
 obtain ⟨m, hm⟩ : ∃ m, l.length - i = m + 1 := ⟨l.length - i - 1, by omega⟩
 rw [hm, List.replicate_succ, List.set_append_right _ _ (by omega), hl, Nat.sub_self, List.set_cons_zero, show l.length - (i + 1) = m by omega]
 simp
end Go.Proofs.YthhkkhnjkoacnaaDoor.PL
end
section
namespace Go.Proofs.YthhkkhnjkoacnaaDoor.PS

end Go.Proofs.YthhkkhnjkoacnaaDoor.PS
end
section
namespace Go.Proofs.YthhkkhnjkoacnaaDoor.PT
open Go.RowKit Go.Proofs.YthhkkhnjkoacnaaDoorW.PrintWords Go.Proofs.YthhkkhnjkoacnaaDoorW.PrintLast Go.Proofs.YthhkkhnjkoacnaaDoorW.PrintMore Go.Proofs.YthhkkhnjkoacnaaDoor.PB Go.Proofs.YthhkkhnjkoacnaaDoor.PD Go.Proofs.YthhkkhnjkoacnaaDoor.PK Go.Proofs.YthhkkhnjkoacnaaDoor.PL Go.Proofs.YthhkkhnjkoacnaaDoor.PS Go.Proofs.YthhkkhnjkoacnaaDoor.PA
set_option linter.unusedVariables false
theorem inS (a b c : Int) : spec_l1In.f a b c = some (decide (b ≤ a ∧ a ≤ c)) := by
 unfold spec_l1In.f
 by_cases h : a ≥ b
 ·rw [if_pos h]; simp [show b ≤ a from h]
 ·rw [if_neg h]; simp [show ¬ b ≤ a from h]
theorem inI (a b c : Int) : impl_within.f a b c = some (decide (b ≤ a ∧ a ≤ c)) := by
 unfold impl_within.f
 by_cases h : a ≥ b
 ·rw [if_pos h]; simp [show b ≤ a from h]
 ·rw [if_neg h]; simp [show ¬ b ≤ a from h]
end Go.Proofs.YthhkkhnjkoacnaaDoor.PT
end
section
namespace Go.Proofs.YthhkkhnjkoacnaaDoor.PU
open Go.RowKit Go.Proofs.YthhkkhnjkoacnaaDoorW.PrintWords Go.Proofs.YthhkkhnjkoacnaaDoorW.PrintLast Go.Proofs.YthhkkhnjkoacnaaDoorW.PrintMore Go.Proofs.YthhkkhnjkoacnaaDoor.PB Go.Proofs.YthhkkhnjkoacnaaDoor.PD Go.Proofs.YthhkkhnjkoacnaaDoor.PK Go.Proofs.YthhkkhnjkoacnaaDoor.PL Go.Proofs.YthhkkhnjkoacnaaDoor.PS Go.Proofs.YthhkkhnjkoacnaaDoor.PT Go.Proofs.YthhkkhnjkoacnaaDoor.PA
set_option linter.unusedVariables false
theorem idx_any {α : Type} (l : List α) (rf : List α → Int → α) (hrf : ∀ i (h : i < l.length), rf l (i : Int) = l[i]) (L0 : Nat → List α → Int → Int → Option Int) (cl : Nat → α → Option Bool) (p : α → Bool)
  (hstep : ∀ k n i, L0 (k + 1) l n i = if i < n then (if 0 ≤ i then (if i < (l.length : Int) then ((cl k (rf l i)).bind fun t => if t = true then some i else L0 k l n (wrap64 (i + 1))) else none) else none) else some (-1))
  (hp : ∀ x ∈ l, Ev (fun k => cl k x) (p x)) (hl : l.length ≤ 4000000000000000000) : ∃ r, Ev (fun k => L0 k l (l.length : Int) 0) r ∧ decide (r ≥ 0) = l.any p := by
 have key : ∀ (d i : Nat), i + d = l.length → ∃ r, Ev (fun k => L0 k l (l.length : Int) (i : Int)) r ∧ decide (r ≥ 0) = (l.drop i).any p := by
  intro d
  induction d with
  | zero =>
   intro i hi
   refine ⟨-1, Ev.step (f := fun _ => some (-1)) (fun k => ?_) (Ev.now _), ?_⟩
   ·rw [hstep, if_neg (by omega)]
   ·rw [List.drop_eq_nil_of_le (by omega)]; rfl
  | succ d ih =>
   intro i hi
   have hlt : i < l.length := by omega
   have hpx := hp _ (List.getElem_mem hlt)
   rw [List.drop_eq_getElem_cons hlt, List.any_cons]
   have st : ∀ k, L0 (k + 1) l (l.length : Int) (i : Int) = (cl k l[i]).bind fun t => if t = true then some (i : Int) else L0 k l (l.length : Int) ((i + 1 : Nat) : Int) := by
    intro k
    rw [hstep, if_pos (by omega), if_pos (by omega), if_pos (by omega), hrf i hlt, w64 (x := (i : Int) + 1) (by omega) (by omega)]
    rfl
   cases hb : p l[i] with
   | true =>
    rw [hb] at hpx
    refine ⟨(i : Int), Ev.step (f := fun k => (cl k l[i]).bind fun t => if t = true then some (i : Int) else L0 k l (l.length : Int) ((i + 1 : Nat) : Int)) st (ev_bind hpx (ev_pos rfl (Ev.now _))), ?_⟩
    simp only [Bool.true_or]
    exact decide_eq_true (by omega)
   | false =>
    rw [hb] at hpx
    obtain ⟨r, hr, e⟩ := ih (i + 1) (by omega)
    refine ⟨r, Ev.step (f := fun k => (cl k l[i]).bind fun t => if t = true then some (i : Int) else L0 k l (l.length : Int) ((i + 1 : Nat) : Int)) st (ev_bind hpx (ev_neg (by simp) hr)), ?_⟩
    rw [Bool.false_or]; exact e
 obtain ⟨r, hr, e⟩ := key l.length 0 (by omega)
 exact ⟨r, hr, by rw [e, List.drop_zero]⟩
end Go.Proofs.YthhkkhnjkoacnaaDoor.PU
end
section
namespace Go.Proofs.YthhkkhnjkoacnaaDoor.PG
open Go.RowKit Go.Proofs.YthhkkhnjkoacnaaDoorW.PrintWords Go.Proofs.YthhkkhnjkoacnaaDoorW.PrintLast Go.Proofs.YthhkkhnjkoacnaaDoorW.PrintMore Go.Proofs.YthhkkhnjkoacnaaDoor.PB Go.Proofs.YthhkkhnjkoacnaaDoor.PL
set_option linter.unusedVariables false
theorem loop_up {β : Type} {r : β} (n : Nat) (S : Nat → Nat → Option β) (hend : Ev (S n) r) (hround : ∀ i, i < n → Ev (S (i + 1)) r → Ev (S i) r) : Ev (S 0) r := by
 have key : ∀ d i, i + d = n → Ev (S i) r := by
  intro d
  induction d with
  | zero => intro i hi; rw [show i = n by omega]; exact hend
  | succ d ih => intro i hi; exact hround i (by omega) (ih (i + 1) (by omega))
 exact key n 0 (by omega)
def wsum {α : Type} (wt : α → Nat) : List α → Nat
 | [] => 0
 | x :: l => wt x + wsum wt l
def left (R : Int) (w : Nat) : Int := if (w : Int) ≤ R then R - w else -1
theorem left_yes {R : Int} {w : Nat} (h : (w : Int) ≤ R) : left R w = R - w := if_pos h
theorem left_no {R : Int} {w : Nat} (h : ¬ (w : Int) ≤ R) : left R w = -1 := if_neg h
theorem left_add {R : Int} {a b : Nat} (h : (a : Int) ≤ R) : left (R - a) b = left R (a + b) := by
 unfold left
 by_cases hb : (b : Int) ≤ R - a
 ·rw [if_pos hb, if_pos (by omega)]; omega
 ·rw [if_neg hb, if_neg (by omega)]
theorem sz_list {α : Type} (wt : α → Nat) (l : List α) (rf : List α → Int → α) (hrf : ∀ i (h : i < l.length), rf l (i : Int) = l[i]) (L0 : Nat → List α → Int → Int → Option Int) (F : Nat → List α → Int → Option Int) (e : Nat → α → Int → Option Int)
  (hstep : ∀ k R i, L0 (k + 1) l R i = if i < (l.length : Int) then (if 0 ≤ i then ((e k (rf l i) R).bind fun t => if t < 0 then some (-1) else L0 k l t (wrap64 (i + 1))) else none) else some R)
  (hF : ∀ k R, F k l R = if wrap64 (R - (l.length : Int)) < 0 then some (-1) else L0 k l (wrap64 (R - (l.length : Int))) 0)
  (he : ∀ x ∈ l, ∀ R, 0 ≤ R → R ≤ 1000000000000 → Ev (fun k => e k x R) (left R (wt x))) (hl : l.length ≤ 9223372036854775807) (R : Int) (h0 : 0 ≤ R) (h1 : R ≤ 1000000000) :
  Ev (fun k => F k l R) (left R (l.length + wsum wt l)) := by
 have key : ∀ (d i : Nat) (R : Int), i + d = l.length → 0 ≤ R → R ≤ 1000000000000 → l.length ≤ 1000000000000 → Ev (fun k => L0 k l R (i : Int)) (left R (wsum wt (l.drop i))) := by
  intro d
  induction d with
  | zero =>
   intro i R hi h0 h1 h2
   rw [List.drop_eq_nil_of_le (by omega)]
   refine Ev.step (f := fun _ => some R) (fun k => by rw [hstep, if_neg (by omega)]) ?_
   refine ev_eq (Ev.now R) ?_
   show R = left R 0
   unfold left
   rw [if_pos (by omega)]; omega
  | succ d ih =>
   intro i R hi h0 h1 h2
   have hlt : i < l.length := by omega
   have hx := he _ (List.getElem_mem hlt) R h0 h1
   rw [List.drop_eq_getElem_cons hlt, show wsum wt (l[i] :: l.drop (i + 1)) = wt l[i] + wsum wt (l.drop (i + 1)) from rfl]
   refine Ev.step (f := fun k => (e k l[i] R).bind fun t => if t < 0 then some (-1) else L0 k l t ((i + 1 : Nat) : Int)) (fun k => ?_) ?_
   ·rw [hstep, if_pos (by omega), if_pos (by omega), hrf i hlt, w64 (x := (i : Int) + 1) (by omega) (by omega)]; rfl
   ·refine ev_bind hx ?_
    by_cases hc : ((wt l[i] : Nat) : Int) ≤ R
    ·rw [left_yes hc]
     refine ev_neg (by omega) ?_
     refine ev_eq (ih (i + 1) (R - wt l[i]) (by omega) (by omega) (by omega) h2) (left_add hc)
    ·rw [left_no hc]
     refine ev_pos (by omega) (ev_eq (Ev.now _) ?_)
     unfold left
     rw [if_neg (by omega)]
 by_cases hc : (l.length : Int) ≤ R
 ·refine Ev.congr (f := fun k => L0 k l (R - l.length) ((0 : Nat) : Int)) (fun k => ?_) ?_
  ·rw [hF, w64 (x := R - (l.length : Int)) (by omega) (by omega), if_neg (by omega)]; rfl
  ·refine ev_eq (key l.length 0 (R - l.length) (by omega) (by omega) (by omega) (by omega)) ?_
   rw [List.drop_zero]; exact left_add hc
 ·refine Ev.congr (f := fun _ => some (-1)) (fun k => ?_) (ev_eq (Ev.now _) ?_)
  ·rw [hF, w64 (x := R - (l.length : Int)) (by omega) (by omega), if_pos (by omega)]
  ·unfold left; rw [if_neg (by omega)]
theorem to_list {α β : Type} (f : α → β) (z : β) (l : List α) (L0 : Nat → List α → List β → Int → Option (List β)) (hl : l.length ≤ 2000000)
  (hend : ∀ k out, L0 (k + 1) l out (l.length : Int) = some out)
  (hround : ∀ i (h : i < l.length) (out : List β), out.length = l.length → ∀ r, Ev (fun k => L0 k l (out.set i (f l[i])) ((i + 1 : Nat) : Int)) r → Ev (fun k => L0 k l out (i : Int)) r) :
  Ev (fun k => L0 k l (List.replicate l.length z) 0) (l.map f) := by
 have h := loop_up (r := l.map f) l.length (fun i k => L0 k l (filled f z l i) (i : Int)) ?_ ?_
 ·rw [← filled_zero f z l]; exact h
 ·refine Ev.step (f := fun _ => some (l.map f)) (fun k => ?_) (Ev.now _)
  rw [hend, filled_all]
 ·intro i hi h
  refine hround i hi _ (filled_length _ _ _ _ (by omega)) _ ?_
  rw [filled_set f z l i hi]
  exact h
theorem eq_list {α : Type} (l : List α) (L0 : Nat → List α → List α → Int → Option Bool) (F : Nat → List α → List α → Option Bool) (hend : ∀ k, L0 (k + 1) l l (l.length : Int) = some true)
  (hF : ∀ k, F k l l = L0 k l l 0) (hround : ∀ i (h : i < l.length), Ev (fun k => L0 k l l ((i + 1 : Nat) : Int)) true → Ev (fun k => L0 k l l (i : Int)) true) : Ev (fun k => F k l l) true := by
 refine Ev.congr (f := fun k => L0 k l l ((0 : Nat) : Int)) (fun k => hF k) ?_
 exact loop_up l.length (fun i k => L0 k l l (i : Int)) (Ev.step (f := fun _ => some true) (fun k => hend k) (Ev.now _)) (fun i hi h => hround i hi h)
end Go.Proofs.YthhkkhnjkoacnaaDoor.PG
end
section
namespace Go.Proofs.YthhkkhnjkoacnaaDoor.PQ

end Go.Proofs.YthhkkhnjkoacnaaDoor.PQ
end
section
namespace Go.Proofs.YthhkkhnjkoacnaaDoor.PV

end Go.Proofs.YthhkkhnjkoacnaaDoor.PV
end
section
namespace Go.Proofs.YthhkkhnjkoacnaaDoor.PW
open Go.RowKit Go.Proofs.YthhkkhnjkoacnaaDoorW.PrintWords Go.Proofs.YthhkkhnjkoacnaaDoorW.PrintLast Go.Proofs.YthhkkhnjkoacnaaDoorW.PrintMore Go.Proofs.YthhkkhnjkoacnaaDoor.PB Go.Proofs.YthhkkhnjkoacnaaDoor.PD Go.Proofs.YthhkkhnjkoacnaaDoor.PK Go.Proofs.YthhkkhnjkoacnaaDoor.PL Go.Proofs.YthhkkhnjkoacnaaDoor.PS Go.Proofs.YthhkkhnjkoacnaaDoor.PT Go.Proofs.YthhkkhnjkoacnaaDoor.PU Go.Proofs.YthhkkhnjkoacnaaDoor.PG Go.Proofs.YthhkkhnjkoacnaaDoor.PQ Go.Proofs.YthhkkhnjkoacnaaDoor.PV Go.Proofs.YthhkkhnjkoacnaaDoor.PA
set_option linter.unusedVariables false
theorem loop_yes {β : Type} (n : Nat) (S : Nat → Nat → Option β) (Q : Nat → Prop) (b : β) (hround : ∀ r i, i < n → Q i → Ev (S (i + 1)) r → Ev (S i) r) (hend : Ev (S n) b) (hq : ∀ i, i < n → Q i) : Ev (S 0) b :=
 loop_up n S hend (fun i hi h => hround b i hi (hq i hi) h)
theorem loop_no {β : Type} (n : Nat) (S : Nat → Nat → Option β) (Q : Nat → Prop) (no : β) (hround : ∀ r i, i < n → Q i → Ev (S (i + 1)) r → Ev (S i) r) (hno : ∀ i, i < n → ¬ Q i → Ev (S i) no) (hq : ¬ ∀ i, i < n → Q i) : Ev (S 0) no := by
 refine Classical.byContradiction fun hc => hq ?_
 have key : ∀ i, i ≤ n → (¬ Ev (S i) no) ∧ ∀ j, j < i → Q j := by
  intro i
  induction i with
  | zero => intro _; exact ⟨hc, fun j hj => absurd hj (Nat.not_lt_zero j)⟩
  | succ i ih =>
   intro hi
   obtain ⟨h1, h2⟩ := ih (by omega)
   have hQ : Q i := Classical.byContradiction fun h => h1 (hno i (by omega) h)
   refine ⟨fun h => h1 (hround no i (by omega) hQ h), fun j hj => ?_⟩
   by_cases e : j = i
   ·subst e; exact hQ
   ·exact h2 j (by omega)
 exact (key n (Nat.le_refl n)).2
theorem not_any {α : Type} (p : α → Bool) : ∀ l : List α, (l.any fun s => !p s) = !(l.all p) := by
 intro l
 induction l with
 | nil => rfl
 | cons x l ih => simp only [List.any_cons, List.all_cons, Bool.not_and, ih]
end Go.Proofs.YthhkkhnjkoacnaaDoor.PW
end
section
namespace Go.Proofs.YthhkkhnjkoacnaaDoor.QV
open Go.RowKit Go.Proofs.YthhkkhnjkoacnaaDoorW.PrintWords Go.Proofs.YthhkkhnjkoacnaaDoorW.PrintLast Go.Proofs.YthhkkhnjkoacnaaDoorW.PrintMore Go.Proofs.YthhkkhnjkoacnaaDoor.PB Go.Proofs.YthhkkhnjkoacnaaDoor.PD Go.Proofs.YthhkkhnjkoacnaaDoor.PL Go.Proofs.YthhkkhnjkoacnaaDoor.PT Go.Proofs.YthhkkhnjkoacnaaDoor.PU Go.Proofs.YthhkkhnjkoacnaaDoor.PG Go.Proofs.YthhkkhnjkoacnaaDoor.PW Go.Proofs.YthhkkhnjkoacnaaDoor.QR Go.Proofs.YthhkkhnjkoacnaaDoor.PA
set_option linter.unusedVariables false
theorem app_list (a b : ByteArray) : (a ++ b).toList = a.toList ++ b.toList := by
 rw [ByteArray.toList_eq, ByteArray.toList_eq, ByteArray.toList_eq]; simp
theorem sn_list (xs : List Int) : (strOfNums xs).toList = xs.map fun n => UInt8.ofNat n.toNat := by rw [ByteArray.toList_eq]; exact strOfNums_data xs
theorem sn_append (xs ys : List Int) : strOfNums (xs ++ ys) = strOfNums xs ++ strOfNums ys := by
 apply ba_ext
 rw [app_list, sn_list, sn_list, sn_list, List.map_append]
theorem app_size (a b : ByteArray) : (a ++ b).size = a.size + b.size := ByteArray.size_append
def ints (l : List UInt8) : List Int := l.map fun b => (b.toNat : Int)
theorem sn_ints (l : List UInt8) : (strOfNums (ints l)).toList = l := by
 rw [sn_list]
 unfold ints
 rw [List.map_map]
 have : ((fun n : Int => UInt8.ofNat n.toNat) ∘ fun b : UInt8 => (b.toNat : Int)) = id := by
  funext b
  simp
 rw [this, List.map_id]
def tint (l : List UInt8) : List Int := ints (rep 0 [0, 255] l)
theorem tint_zero (l : List UInt8) : tint (0 :: l) = 0 :: 255 :: tint l := by
 unfold tint
 rw [rep_cons, if_pos rfl]
 rfl
theorem tint_other {c : UInt8} (h : c ≠ 0) (l : List UInt8) : tint (c :: l) = (c.toNat : Int) :: tint l := by
 unfold tint
 rw [rep_cons, if_neg h]
 rfl
theorem tint_len : ∀ l : List UInt8, (tint l).length ≤ 2 * l.length := by
 intro l
 induction l with
 | nil => simp [tint, rep, ints]
 | cons c l ih =>
  by_cases h : c = 0
  ·subst h; rw [tint_zero]; simp; omega
  ·rw [tint_other h]; simp; omega
def valI (a b : Int) (s : ByteArray) : List Int :=
 (a % 256) :: (if a = 2 then [b % 256] else if a = 3 then [(wrap64 (b + 1000000000)) / 16777216 % 256, (wrap64 (b + 1000000000)) / 65536 % 256, (wrap64 (b + 1000000000)) / 256 % 256, (wrap64 (b + 1000000000)) % 256] else if a = 4 then tint s.toList ++ [0, 0] else [])
theorem valI_len (a b : Int) (s : ByteArray) : (valI a b s).length ≤ 2 * s.size + 10 := by
 unfold valI
 have h := tint_len s.toList
 rw [size_toList] at h
 rw [List.length_cons]
 split
 ·simp
 ·split
  ·simp
  ·split
   ·rw [List.length_append]; simp only [List.length_cons, List.length_nil]; omega
   ·simp
theorem l4loop (s : ByteArray) (hs : s.size ≤ 100000) (a b : Int) : ∀ (d i : Nat) (x : List Int), i + d = s.size → x.length ≤ 2 * i + 10 → Ev (fun k => spec_l4Bytes.l0 k x (i : Int) a b s) (strOfNums (x ++ (tint (s.toList.drop i) ++ [0, 0]))) := by
 intro d
 induction d with
 | zero =>
  intro i x hi hx
  rw [List.drop_eq_nil_of_le (by rw [size_toList]; omega)]
  refine Ev.step (f := fun _ => some (strOfNums (x ++ [0, 0]))) (fun k => ?_) (Ev.now _)
  simp only [spec_l4Bytes.l0]
  rw [if_neg (by omega)]
  simp only [Option.bind_some]
  rw [if_pos (by simp only [List.length_cons, List.length_nil]; omega)]
 | succ d ih =>
  intro i x hi hx
  have hlt : i < s.size := by omega
  have hg := bt_get s i hlt
  have hdr := drop_at s.toList i (by rw [size_toList]; omega)
  by_cases hc : s.toList.getD i 0 = 0
  ·have hb : bt s (i : Int) = 0 := by rw [hg, hc]; rfl
   rw [hdr, hc, tint_zero]
   refine ev_eq (Ev.step (f := fun k => spec_l4Bytes.l0 k (x ++ [0] ++ [255]) ((i + 1 : Nat) : Int) a b s) (fun k => ?_) (ih (i + 1) (x ++ [0] ++ [255]) (by omega) (by simp only [List.length_append, List.length_cons, List.length_nil]; omega))) (by simp only [List.append_assoc, List.cons_append, List.nil_append])
   simp only [spec_l4Bytes.l0]
   rw [if_pos (by omega), if_pos (by omega), if_pos (by omega), hb]
   simp only [Option.bind_some]
   rw [if_pos trivial, if_pos (by simp only [List.length_append, List.length_cons, List.length_nil]; omega), w64 (x := (i : Int) + 1) (by omega) (by omega)]
   rfl
  ·have hb : ¬ bt s (i : Int) = 0 := by
    rw [hg]
    intro h
    exact hc (UInt8.toNat_inj.1 (by rw [show (0 : UInt8).toNat = 0 from rfl]; omega))
   rw [hdr, tint_other hc]
   refine ev_eq (Ev.step (f := fun k => spec_l4Bytes.l0 k (x ++ [bt s (i : Int)]) ((i + 1 : Nat) : Int) a b s) (fun k => ?_) (ih (i + 1) (x ++ [bt s (i : Int)]) (by omega) (by simp only [List.length_append, List.length_cons, List.length_nil]; omega))) (by rw [hg]; simp only [List.append_assoc, List.cons_append, List.nil_append])
   simp only [spec_l4Bytes.l0]
   rw [if_pos (by omega), if_pos (by omega), if_pos (by omega)]
   simp only [Option.bind_some]
   rw [if_neg hb, w64 (x := (i : Int) + 1) (by omega) (by omega)]
   rfl
theorem bytesVS (a b : Int) (s : ByteArray) (hs : s.size ≤ 100000) : Ev (fun k => spec_l4Bytes.f k a b s) (strOfNums (valI a b s)) := by
 unfold spec_l4Bytes.f valI
 refine ev_const (a := [a % 256]) rfl ?_
 by_cases h2 : a = 2
 ·refine ev_pos h2 (ev_pos (by simp only [List.length_cons, List.length_nil]; omega) (ev_eq (Ev.now _) ?_))
  rw [if_pos h2]; rfl
 ·refine ev_neg h2 ?_
  rw [if_neg h2]
  by_cases h3 : a = 3
  ·refine ev_pos h3 (ev_const rfl (ev_pos (by simp only [List.length_cons, List.length_nil]; omega) (ev_eq (Ev.now _) ?_)))
   rw [if_pos h3]; rfl
  ·refine ev_neg h3 ?_
   rw [if_neg h3]
   by_cases h4 : a = 4
   ·refine ev_pos h4 ?_
    rw [if_pos h4]
    exact ev_eq (l4loop s hs a b s.size 0 [a % 256] (by omega) (by simp)) (by simp)
   ·refine ev_neg h4 ?_
    rw [if_neg h4]
    exact Ev.now _
theorem repAll (s : ByteArray) (hs : s.size ≤ 100000) : strings_ReplaceAll.f s ⟨#[0]⟩ ⟨#[0, 255]⟩ = some (strOfNums (tint s.toList)) := by
 unfold strings_ReplaceAll.f
 rw [if_pos ⟨by decide, by decide, by omega, by decide⟩]
 congr 1
 apply ba_ext
 unfold tint
 rw [sn_ints, ByteArray.toList_eq, ByteArray.toList_eq]
 rfl
theorem bytesVI (a b : Int) (s : ByteArray) (hs : s.size ≤ 100000) : impl_Value_bytes.f a b s = some (strOfNums (valI a b s)) := by
 have hl := tint_len s.toList
 rw [size_toList] at hl
 unfold impl_Value_bytes.f valI
 rw [oneI]
 simp only [Option.bind_some]
 have ho : one a = strOfNums [a % 256] := rfl
 by_cases h2 : a = 2
 ·rw [if_pos h2, if_pos h2, oneI]
  simp only [Option.bind_some]
  rw [if_pos (by rw [one_size, one_size]; omega), ho, show one b = strOfNums [b % 256] from rfl, ← sn_append]
  rfl
 ·rw [if_neg h2, if_neg h2]
  by_cases h3 : a = 3
  ·rw [if_pos h3, if_pos h3]
   rw [if_pos (by rw [one_size, strOfNums_size]; simp only [List.length_cons, List.length_nil]; omega), ho, ← sn_append]
   rfl
  ·rw [if_neg h3, if_neg h3]
   by_cases h4 : a = 4
   ·rw [if_pos h4, if_pos h4, repAll s hs]
    simp only [Option.bind_some]
    have h00 : (⟨#[0, 0]⟩ : ByteArray) = strOfNums [0, 0] := rfl
    rw [if_pos (by rw [strOfNums_size]; omega), if_pos (by rw [one_size, app_size, strOfNums_size, show (⟨#[0, 0]⟩ : ByteArray).size = 2 from rfl]; omega), h00, ho, ← sn_append, ← sn_append]
    rfl
   ·rw [if_neg h4, if_neg h4]; rfl
def noB (s : ByteArray) : Bool := s.toList == ([] : List UInt8)
def goodV (a b : Int) (s : ByteArray) : Bool :=
 if a = 1 then (decide (b = 0) && noB s) else if a = 2 then (decide (0 ≤ b ∧ b ≤ 1) && noB s) else if a = 3 then (decide (-1000000000 ≤ b ∧ b ≤ 1000000000) && noB s) else if a = 4 then (decide (b = 0) && decide ((s.size : Int) ≤ 12)) else false
theorem if_and (p : Prop) [Decidable p] (q : Bool) : (if p then some q else some false) = some (decide p && q) := by
 by_cases h : p
 ·rw [if_pos h, decide_eq_true h]; rfl
 ·rw [if_neg h, decide_eq_false h]; rfl
theorem if_andB (p q : Bool) : (if p = true then some q else some false) = some (p && q) := by cases p <;> rfl
theorem goodVS (a b : Int) (s : ByteArray) : spec_GoodValue.f a b s = some (goodV a b s) := by
 unfold spec_GoodValue.f goodV noB
 rw [inS, inS]
 simp only [Option.bind_some]
 rw [if_and, if_andB, if_andB, if_and, apply_ite some, apply_ite some, apply_ite some, apply_ite some]
theorem goodVI (a b : Int) (s : ByteArray) : impl_GoodValue.f a b s = some (goodV a b s) := by
 unfold impl_GoodValue.f goodV noB
 rw [inI, inI]
 simp only [Option.bind_some]
 rw [if_and, if_andB, if_andB, if_and, apply_ite some, apply_ite some, apply_ite some, apply_ite some]
theorem noB_size {s : ByteArray} (h : noB s = true) : s.size = 0 := by
 have := beq_iff_eq.1 h
 rw [← size_toList, this]; rfl
theorem goodV_size {a b : Int} {s : ByteArray} (h : goodV a b s = true) : s.size ≤ 12 := by
 unfold goodV at h
 split at h
 ·simp only [Bool.and_eq_true] at h; have := noB_size h.2; omega
 ·split at h
  ·simp only [Bool.and_eq_true] at h; have := noB_size h.2; omega
  ·split at h
   ·simp only [Bool.and_eq_true] at h; have := noB_size h.2; omega
   ·split at h
    ·simp only [Bool.and_eq_true, decide_eq_true_eq] at h; omega
    ·cases h
theorem valS_size {a b : Int} {s : ByteArray} (h : goodV a b s = true) : (strOfNums (valI a b s)).size ≤ 40 := by
 rw [strOfNums_size]
 have := valI_len a b s
 have := goodV_size h
 omega
theorem rdI_at (l : List S27) (i : Nat) (h : i < l.length) : rd_T27 l (i : Int) = l[i] := by
 simp [rd_T27, List.getD_eq_getElem?_getD, List.getElem?_eq_getElem h]
theorem rdL_at (l : List S23) (i : Nat) (h : i < l.length) : rd_T23 l (i : Int) = l[i] := by
 simp [rd_T23, List.getD_eq_getElem?_getD, List.getElem?_eq_getElem h]
def goodX (x : S27) : Bool := goodV x.f0 x.f1 x.f2
def rowOk (l : List S27) : Bool := decide ((l.length : Int) ≤ 6) && l.all goodX
theorem all_ix (l : List S27) : l.all goodX = true ↔ ∀ i (h : i < l.length), goodX l[i] = true := by
 rw [List.all_eq_true]
 constructor
 ·intro h i hi; exact h _ (List.getElem_mem hi)
 ·intro h x hx
  obtain ⟨i, hi, e⟩ := List.getElem_of_mem hx
  rw [← e]; exact h i hi
theorem rowOkS (l : List S27) (hl : l.length ≤ 2000000) : Ev (fun k => spec_l4Row.f k l) (rowOk l) := by
 have st : ∀ {r : Bool} (i : Nat) (h : i < l.length), Ev (fun k => if goodX l[i] = true then spec_l4Row.l0 k l l (l.length : Int) ((i + 1 : Nat) : Int) else some false) r → Ev (fun k => spec_l4Row.l0 k l l (l.length : Int) (i : Int)) r := by
  intro r i h hr
  refine Ev.step (fun k => ?_) hr
  simp only [spec_l4Row.l0]
  rw [if_pos (by omega), if_pos (by omega), if_pos (by omega), rdI_at l i h, goodVS, w64 (x := (i : Int) + 1) (by omega) (by omega)]
  rfl
 have rn : ∀ (r : Bool) i, i < l.length → (∀ h : i < l.length, goodX l[i] = true) → Ev (fun k => spec_l4Row.l0 k l l (l.length : Int) ((i + 1 : Nat) : Int)) r → Ev (fun k => spec_l4Row.l0 k l l (l.length : Int) (i : Int)) r := fun r i hi hq hr => st i hi (ev_pos (hq hi) hr)
 unfold rowOk
 by_cases hA : ∀ i, i < l.length → ∀ h : i < l.length, goodX l[i] = true
 ·rw [(all_ix l).2 (fun i h => hA i h h), Bool.and_true]
  exact loop_yes l.length (fun i k => spec_l4Row.l0 k l l (l.length : Int) (i : Int)) (fun i => ∀ h : i < l.length, goodX l[i] = true) _ rn (Ev.step (f := fun _ => some (decide ((l.length : Int) ≤ 6))) (fun k => by simp only [spec_l4Row.l0]; rw [if_neg (by omega)]) (Ev.now _)) hA
 ·have e : l.all goodX = false := by
   cases h : l.all goodX with
   | false => rfl
   | true => exact absurd (fun i hi h' => (all_ix l).1 h i h') hA
  rw [e, Bool.and_false]
  exact loop_no l.length (fun i k => spec_l4Row.l0 k l l (l.length : Int) (i : Int)) (fun i => ∀ h : i < l.length, goodX l[i] = true) false rn (fun i hi hq => st i hi (ev_neg (fun h => hq (fun _ => h)) (Ev.now _))) hA
theorem rowOkI (l : List S27) (hl : l.length ≤ 2000000) : Ev (fun k => impl_isRow.f k l) (rowOk l) := by
 unfold impl_isRow.f rowOk
 by_cases h : (l.length : Int) ≤ 6
 ·rw [decide_eq_true h, Bool.true_and]
  refine ev_pos h ?_
  obtain ⟨r, hr, e⟩ := idx_any l (fun l i => rd_T27 l i) (fun i h => rdI_at l i h) slices_IndexFunc_impl_isRow_1.l0 (fun _ x => impl_isRow_1.f x.f0 x.f1 x.f2) (fun x => !goodX x) (fun k n i => rfl) (fun x _ => ev_of_eq (by unfold impl_isRow_1.f; rw [goodVI]; rfl)) (by omega)
  refine ev_bind (ev_bind (f := fun _ t => some (decide (t ≥ 0))) hr (Ev.now _)) (ev_eq (Ev.now _) ?_)
  rw [e]
  have na : ∀ m : List S27, (m.any fun x => !goodX x) = !(m.all goodX) := not_any goodX
  rw [na, Bool.not_not]
 ·rw [decide_eq_false h, Bool.false_and]
  exact ev_neg h (Ev.now _)
theorem rowOk_facts {l : List S27} (h : rowOk l = true) : l.length ≤ 6 ∧ ∀ i (hi : i < l.length), goodX l[i] = true := by
 unfold rowOk at h
 simp only [Bool.and_eq_true, decide_eq_true_eq] at h
 exact ⟨by omega, (all_ix l).1 h.2⟩
abbrev vb (x : S27) : ByteArray := strOfNums (valI x.f0 x.f1 x.f2)
def rowV : ByteArray → List S27 → ByteArray
 | a, [] => a
 | a, x :: l => rowV (a ++ vb x) l
theorem rowV_size (l : List S27) : ∀ a, (∀ x ∈ l, goodX x = true) → (rowV a l).size ≤ a.size + 40 * l.length := by
 induction l with
 | nil => intro a _; simp [rowV]
 | cons x l ih =>
  intro a h
  have h1 := ih (a ++ vb x) (fun y hy => h y (List.mem_cons_of_mem _ hy))
  have h2 : (vb x).size ≤ 40 := valS_size (h x List.mem_cons_self)
  rw [app_size] at h1
  simp only [rowV, List.length_cons]
  omega
theorem rowLoops (l : List S27) (h : rowOk l = true) : ∀ (d i : Nat) (a : ByteArray), i + d = l.length → a.size ≤ 40 * i → Ev (fun k => spec_l4RowBytes.l0 k a l (l.length : Int) (i : Int)) (rowV a (l.drop i)) ∧ Ev (fun k => impl_RowBytes.l0 k a l (l.length : Int) (i : Int)) (rowV a (l.drop i), true) := by
 obtain ⟨hl, hg⟩ := rowOk_facts h
 intro d
 induction d with
 | zero =>
  intro i a hi ha
  rw [List.drop_eq_nil_of_le (by omega)]
  exact ⟨Ev.step (f := fun _ => some a) (fun k => by simp only [spec_l4RowBytes.l0]; rw [if_neg (by omega)]) (Ev.now _), Ev.step (f := fun _ => some (a, true)) (fun k => by simp only [impl_RowBytes.l0]; rw [if_neg (by omega)]) (Ev.now _)⟩
 | succ d ih =>
  intro i a hi ha
  have hlt : i < l.length := by omega
  have hz : (vb l[i]).size ≤ 40 := valS_size (hg i hlt)
  have hs := goodV_size (hg i hlt)
  rw [List.drop_eq_getElem_cons hlt, rowV]
  obtain ⟨h1, h2⟩ := ih (i + 1) (a ++ vb l[i]) (by omega) (by rw [app_size]; omega)
  refine ⟨?_, ?_⟩
  ·refine Ev.step (f := fun k => (spec_l4Bytes.f k l[i].f0 l[i].f1 l[i].f2).bind fun t => if a.size + t.size ≤ 9223372036854775807 then spec_l4RowBytes.l0 k (a ++ t) l (l.length : Int) ((i + 1 : Nat) : Int) else none) (fun k => ?_) (ev_bind (bytesVS l[i].f0 l[i].f1 l[i].f2 (by omega)) (ev_pos (by show a.size + (vb l[i]).size ≤ _; omega) h1))
   simp only [spec_l4RowBytes.l0]
   rw [if_pos (by omega), if_pos (by omega), if_pos (by omega), rdI_at l i hlt, w64 (x := (i : Int) + 1) (by omega) (by omega)]
   rfl
  ·refine Ev.step (f := fun k => impl_RowBytes.l0 k (a ++ vb l[i]) l (l.length : Int) ((i + 1 : Nat) : Int)) (fun k => ?_) h2
   simp only [impl_RowBytes.l0]
   rw [if_pos (by omega), if_pos (by omega), if_pos (by omega), rdI_at l i hlt, bytesVI l[i].f0 l[i].f1 l[i].f2 (by omega), w64 (x := (i : Int) + 1) (by omega) (by omega)]
   simp only [Option.bind_some]
   rw [if_pos (by show a.size + (vb l[i]).size ≤ _; omega)]
   rfl
def rowBytesM (l : List S27) : ByteArray × Bool := if rowOk l = true then (rowV ⟨#[]⟩ l, true) else (⟨#[]⟩, false)
theorem rowBytesI (l : List S27) (hl : l.length ≤ 2000000) : Ev (fun k => impl_RowBytes.f k l) (rowBytesM l) := by
 have h1 := rowOkI l hl
 unfold rowBytesM
 cases h : rowOk l with
 | true =>
  rw [h] at h1
  exact ev_bind h1 (ev_pos rfl (rowLoops l h l.length 0 ⟨#[]⟩ (by omega) (by decide)).2)
 | false =>
  rw [h] at h1
  exact ev_bind h1 (ev_neg (by simp) (Ev.now _))
theorem rowBytes_size (l : List S27) : (rowBytesM l).1.size ≤ 300 := by
 unfold rowBytesM
 split
 ·rename_i h
  obtain ⟨h1, h2⟩ := rowOk_facts h
  have := rowV_size l ⟨#[]⟩ (fun x hx => by
   obtain ⟨i, hi, e⟩ := List.getElem_of_mem hx
   rw [← e]; exact h2 i hi)
  have z : (⟨#[]⟩ : ByteArray).size = 0 := rfl
  dsimp only
  omega
 ·decide
theorem szVal (a b : Int) (s : ByteArray) (R : Int) (hs : s.size ≤ 9223372036854775807) (h0 : 0 ≤ R) (h1 : R ≤ 1000000000000) : laws_szValue.f a b s R = some (left R s.size) := by
 unfold laws_szValue.f
 rw [w64 (x := R - (s.size : Int)) (by omega) (by omega)]
 by_cases h : (s.size : Int) ≤ R
 ·rw [left_yes h, if_neg (by omega)]
 ·rw [left_no h, if_pos (by omega)]
def wtV (x : S23) : Nat := x.f2.size
theorem szVals (l : List S23) (hf : l.length ≤ 9223372036854775807 ∧ ∀ x ∈ l, x.f2.size ≤ 9223372036854775807) (R : Int) (h0 : 0 ≤ R) (h1 : R ≤ 1000000000) : Ev (fun k => laws_szValueS.f k l R) (left R (l.length + wsum wtV l)) :=
 sz_list wtV l rd_T23 (fun i h => rdL_at l i h) laws_szValueS.l0 laws_szValueS.f (fun _ x R => laws_szValue.f x.f0 x.f1 x.f2 R) (fun k R i => rfl) (fun k R => rfl)
  (fun x hx R h0 h1 => ev_of_eq (szVal _ _ _ _ (hf.2 x hx) h0 (by omega))) hf.1 R h0 h1
def convV (x : S23) : S27 := ⟨x.f0, x.f1, x.f2⟩
theorem toVals (l : List S23) (hl : l.length ≤ 2000000) : Ev (fun k => laws_toValueS.f k l) (l.map convV) := by
 refine Ev.congr (f := fun k => laws_toValueS.l0 k l (List.replicate l.length z27) 0) (fun k => ?_) (to_list convV z27 l laws_toValueS.l0 hl (fun k out => ?_) (fun i h out ho r hr => ?_))
 ·simp only [laws_toValueS.f]
  rw [if_pos (by omega), if_pos (by omega)]
  rfl
 ·simp only [laws_toValueS.l0]; rw [if_neg (by omega)]
 ·refine Ev.step (f := fun k => laws_toValueS.l0 k l (out.set i (convV l[i])) ((i + 1 : Nat) : Int)) (fun k => ?_) hr
  simp only [laws_toValueS.l0, laws_toValue.f, Option.bind_some]
  rw [if_pos (by omega), if_pos (by omega), if_pos (by omega), rdL_at l i h, w64 (x := (i : Int) + 1) (by omega) (by omega)]
  rfl
theorem eqVals (l : List S27) (hl : l.length ≤ 2000000) : Ev (fun k => laws_eqValueS.f k l l) true := by
 refine eq_list l laws_eqValueS.l0 laws_eqValueS.f (fun k => ?_) (fun k => ?_) (fun i h hr => ?_)
 ·simp only [laws_eqValueS.l0]; rw [if_neg (by omega)]
 ·simp only [laws_eqValueS.f]; rw [if_pos trivial]
 ·refine Ev.step (f := fun k => laws_eqValueS.l0 k l l ((i + 1 : Nat) : Int)) (fun k => ?_) hr
  simp only [laws_eqValueS.l0, laws_eqValue.f]
  rw [if_pos (by omega), if_pos (by omega), if_pos (by omega), if_pos trivial, if_pos trivial, if_pos trivial]
  simp only [Option.bind_some]
  rw [if_pos trivial, w64 (x := (i : Int) + 1) (by omega) (by omega)]
  rfl
end Go.Proofs.YthhkkhnjkoacnaaDoor.QV
end
section
namespace Go.Proofs.YthhkkhnjkoacnaaDoor.Pure
open Go.RowKit Go.Proofs.YthhkkhnjkoacnaaDoorW.PrintWords Go.Proofs.YthhkkhnjkoacnaaDoorW.PrintLast Go.Proofs.YthhkkhnjkoacnaaDoorW.PrintMore Go.Proofs.YthhkkhnjkoacnaaDoor.PB Go.Proofs.YthhkkhnjkoacnaaDoor.PG Go.Proofs.YthhkkhnjkoacnaaDoor.QV Go.Proofs.YthhkkhnjkoacnaaDoor.PA
set_option linter.unusedVariables false
def afterM (l : List S27) : ByteArray × ByteArray × Bool := if rowOk l = true then (rowV ⟨#[]⟩ l, rowV ⟨#[]⟩ l ++ ⟨#[255]⟩, true) else (⟨#[]⟩, ⟨#[]⟩, false)
theorem afterS (l : List S27) (hl : l.length ≤ 2000000) : Ev (fun k => spec_AfterBeginning.f k l) (afterM l) := by
 have h1 := rowOkS l hl
 unfold afterM
 cases h : rowOk l with
 | true =>
  rw [h] at h1
  have hz := rowBytes_size l
  unfold rowBytesM at hz
  rw [if_pos h] at hz
  exact ev_bind h1 (ev_pos rfl (ev_bind (rowLoops l h l.length 0 ⟨#[]⟩ (by omega) (by decide)).1 (ev_pos (by simp only [List.drop_zero]; dsimp only at hz; omega) (Ev.now _))))
 | false =>
  rw [h] at h1
  exact ev_bind h1 (ev_neg (by simp) (Ev.now _))
theorem afterI (l : List S27) (hl : l.length ≤ 2000000) : Ev (fun k => impl_AfterBeginning.f k l) (afterM l) := by
 have h1 := rowBytesI l hl
 have hz := rowBytes_size l
 unfold afterM
 unfold rowBytesM at h1 hz
 cases h : rowOk l with
 | true =>
  rw [h, if_pos rfl] at h1 hz
  exact ev_bind h1 (ev_pos rfl (ev_pos (by dsimp only at hz ⊢; omega) (Ev.now _)))
 | false =>
  rw [h, if_neg (by simp)] at h1
  exact ev_bind h1 (ev_neg (by simp) (Ev.now _))
theorem FnExactAfterBeginning (l : List S23) (hf : l.length ≤ maxLen ∧ ∀ x ∈ l, (Lit.int .i64 x.f0).wf = true ∧ (Lit.int .i64 x.f1).wf = true ∧ x.f2.size ≤ maxLen) : ∃ k, laws_FnExactAfterBeginning.f k l = some true := by
 refine Ev.rounds ?_
 unfold laws_FnExactAfterBeginning.f
 have hz := szVals l ⟨hf.1, fun x hx => (hf.2 x hx).2.2⟩ 1048576 (by omega) (by omega)
 by_cases ht : ((l.length + wsum wtV l : Nat) : Int) ≤ 1048576
 ·rw [left_yes ht] at hz
  have hl : l.length ≤ 2000000 := by omega
  have hm : (l.map convV).length ≤ 2000000 := by rw [List.length_map]; exact hl
  refine ev_bind hz (ev_neg (by omega) (ev_bind (toVals l hl) (ev_bind (afterS _ hm) (ev_bind (toVals l hl) (ev_bind (afterI _ hm) (ev_pos rfl (ev_pos rfl ?_)))))))
  simp only [bne_self_eq_false]
  refine Ev.step (f := fun k => _) (fun k => by simp only [laws_FnExactAfterBeginning.j0]; rfl) ?_
  exact ev_neg (by simp) (ev_bind (toVals l hl) (ev_bind (eqVals _ hm) (ev_pos rfl (Ev.now _))))
 ·rw [left_no ht] at hz
  exact ev_bind hz (ev_pos (by omega) (Ev.now _))
end Go.Proofs.YthhkkhnjkoacnaaDoor.Pure
end
section
namespace Go.Proofs.YthhkkhnjkoacnaaDoor.RO
open Go.RowKit Go.Proofs.YthhkkhnjkoacnaaDoorW.PrintWords Go.ChangeShapes Go.WideShapes
set_option linter.unusedVariables false
def Opn (P : Program) (W : World) (e : TypeId) {α : Type} (d : Kd α) (G : α → Prop) : Prop :=
 ∀ {H : Type} {enc : TypeId × Value → H} {base : Nat} {spare : Nat → Bool} {held : Bool} {n : Nat} {cs : List Value} {x : DataW H × List MemPlace},
  DataW.trod enc P W base spare held n e cs = some x → ∃ y : α, d.K W y cs ∧ G y
section
variable {P : Program} {W : World} {e t : TypeId}
theorem op_string (he : P.underlying e = some .string) : Opn P W e Kd.string (fun s => s.size ≤ maxLen) := by
 intro H enc base spare held n cs x h
 obtain ⟨s, rfl, _, hs⟩ := DataW.trod_string he h
 exact ⟨s, rfl, hs⟩
theorem op_int {k : IntKind} (he : P.underlying e = some (.int k)) : Opn P W e (Kd.int k) (fun n => (Lit.int k n).wf = true) := by
 intro H enc base spare held n cs x h
 obtain ⟨m, rfl, _, hs⟩ := DataW.trod_int he h
 exact ⟨m, rfl, hs⟩
theorem pick {α : Type} {p : Nat → α → Prop} : ∀ (n : Nat), (∀ i, i < n → ∃ y, p i y) → ∃ ys : List α, ys.length = n ∧ ∀ i y, ys[i]? = some y → p i y := by
 intro n
 induction n with
 | zero => intro _; exact ⟨[], rfl, fun i y h => by simp at h⟩
 | succ n ih =>
  intro h
  obtain ⟨ys, hl, hp⟩ := ih (fun i hi => h i (by omega))
  obtain ⟨y, hy⟩ := h n (by omega)
  refine ⟨ys ++ [y], by simp [hl], fun i z hz => ?_⟩
  by_cases hi : i < n
  ·rw [List.getElem?_append_left (by omega)] at hz
   exact hp i z hz
  ·rw [List.getElem?_append_right (by omega)] at hz
   have : i = n := by
    rcases Nat.lt_or_ge (i - ys.length) 1 with h1 | h1
    ·omega
    ·rw [List.getElem?_eq_none (by simpa using h1)] at hz; cases hz
   subst this
   rw [hl, Nat.sub_self] at hz
   simp at hz
   subst hz
   exact hy
theorem op_slice {α : Type} {d : Kd α} {G : α → Prop} (ht : P.underlying t = some (.slice e)) (hc : P.cellsOf e = d.sz) (ho : Opn P W e d G) : Opn P W t (Kd.slice e d) (fun l => l.length ≤ maxLen ∧ ∀ x ∈ l, G x) := by
 intro H enc base spare held n cs x h
 rcases Deep.open_slice ht h with ⟨rfl, _⟩ | ⟨a, len, cap, m, n', D, Pl, rfl, _, hl, hm, hmm, _, hx⟩
 ·exact ⟨[], ⟨none, 0, rfl, Nat.le_refl _, Kd.C_nil _ _⟩, by simp [maxLen], fun x hx => by cases hx⟩
 ·obtain ⟨ys, hyl, hy⟩ := pick (p := fun i y => ∃ c, c.length = d.sz ∧ d.K W y c ∧ G y ∧ ∀ j u, c[j]? = some u → W.cell? (a.add (i * d.sz + j)) = some u) len (fun i hi => by
   have him : i < m := by rw [hmm]; split <;> omega
   obtain ⟨c, h1, h2⟩ := hx i him
   obtain ⟨y, hk, hg⟩ := ho h2
   obtain ⟨_, hcl, hcell⟩ := World.cells?_some h1
   rw [hc] at hcl hcell
   refine ⟨y, c, hcl, hk, hg, fun j u hj => ?_⟩
   have hj' : j < d.sz := by rw [← hcl]; exact (List.getElem?_eq_some_iff.1 hj).1
   have := hcell j hj'
   rw [hj] at this
   rw [← this]
   congr 1
   have e0 : ∀ p q : Nat, (a.add p).add q = a.add (p + q) := by
    intro p q
    obtain ⟨b, o, s⟩ := a
    unfold Addr.add
    by_cases hp : p = 0
    ·subst hp; simp
    ·by_cases hq : q = 0
     ·subst hq; simp [hp]
     ·simp [hp, hq]; omega
   rw [e0])
  refine ⟨ys, ⟨some a, cap, by rw [hyl], by omega, rfl, by rw [hyl]; unfold maxLen at hm; omega, fun h0 => ⟨a, rfl, fun j p hj => ?_⟩⟩, by rw [hyl]; omega, fun x hx => ?_⟩
  ·obtain ⟨c, h1, h2, _, h3⟩ := hy j p hj
   exact ⟨c, h1, h2, h3⟩
  ·obtain ⟨i, hi⟩ := List.getElem?_of_mem hx
   obtain ⟨c, _, _, h, _⟩ := hy i x hi
   exact h
def OpAt (P : Program) (W : World) (fs : List (TypeId × Nat)) (off : Nat) {α : Type} (d : Kd α) (G : α → Prop) : Prop :=
 ∀ {H : Type} {enc : TypeId × Value → H} {base : Nat} {spare : Nat → Bool} {held : Bool} {n : Nat} {cs : List Value}, cs.length = off + d.sz →
  (∀ f ∈ fs, ∃ x, DataW.trod enc P W base spare held n f.1 ((cs.drop f.2).take (P.cellsOf f.1)) = some x) → ∃ y : α, d.K W y (cs.drop off) ∧ G y
theorem opAt_one {off : Nat} {α : Type} {d : Kd α} {G : α → Prop} (hc : P.cellsOf e = d.sz) (h : Opn P W e d G) : OpAt P W [(e, off)] off d G := by
 intro H enc base spare held n cs hl hf
 obtain ⟨x, hx⟩ := hf (e, off) (List.mem_singleton.2 rfl)
 dsimp only at hx
 rw [hc, List.take_of_length_le (by rw [List.length_drop]; omega)] at hx
 exact h hx
theorem opAt_cons {off : Nat} {fs : List (TypeId × Nat)} {α β : Type} {d1 : Kd α} {d2 : Kd β} {G1 : α → Prop} {G2 : β → Prop} (hc : P.cellsOf e = d1.sz) (h1 : Opn P W e d1 G1) (h2 : OpAt P W fs (off + d1.sz) d2 G2) :
  OpAt P W ((e, off) :: fs) off (Kd.pair d1 d2) (fun y => G1 y.1 ∧ G2 y.2) := by
 intro H enc base spare held n cs hl hf
 have hl' : cs.length = off + (d1.sz + d2.sz) := hl
 obtain ⟨x, hx⟩ := hf (e, off) List.mem_cons_self
 dsimp only at hx
 rw [hc] at hx
 obtain ⟨y1, hk1, hg1⟩ := h1 hx
 obtain ⟨y2, hk2, hg2⟩ := h2 (cs := cs) (by omega) (fun f hf' => hf f (List.mem_cons_of_mem _ hf'))
 refine ⟨(y1, y2), ⟨(cs.drop off).take d1.sz, cs.drop (off + d1.sz), ?_, hk1, hk2⟩, hg1, hg2⟩
 rw [← List.drop_drop, List.take_append_drop]
theorem op_struct {fs : Array Field} {L : List (TypeId × Nat)} {α β : Type} {d : Kd α} {f : β → α} {g : α → β} {G : α → Prop} (ht : P.underlying t = some (.struct fs)) (hL : fs.toList.map (fun f => (f.type, f.offset)) = L) (hc : P.cellsOf t = d.sz) (hfg : ∀ y, f (g y) = y)
  (h : OpAt P W L 0 d G) : Opn P W t (Kd.iso d f) (fun x => G (f x)) := by
 intro H enc base spare held n cs x hx
 obtain ⟨xs, m, _, _, hl, hxl, hf⟩ := DataW.trod_struct ht hx
 obtain ⟨y, hk, hg⟩ := h (cs := cs) (n := m) (enc := enc) (base := base) (spare := spare) (held := held) (by rw [hl, hc]; omega) (fun q hq => by
  rw [← hL] at hq
  obtain ⟨fd, hfd, rfl⟩ := List.mem_map.1 hq
  obtain ⟨i, hi⟩ := List.getElem?_of_mem hfd
  rw [Array.getElem?_toList] at hi
  have hlt : i < xs.length := by
   have := (Array.getElem?_eq_some_iff.1 hi).1
   omega
  exact ⟨xs[i], by rw [hf i fd hi]; exact List.getElem?_eq_getElem hlt⟩)
 rw [List.drop_zero] at hk
 refine ⟨g y, ?_, ?_⟩
 ·show d.K W (f (g y)) cs
  rw [hfg]; exact hk
 ·show G (f (g y))
  rw [hfg]; exact hg
end
end Go.Proofs.YthhkkhnjkoacnaaDoor.RO
end
