/- For the law FnExactPiecesOf (laid by merge.py). -/
import Derived.Test.YtnplghcbdaiogaaMFnExactPiecesOfc
section
namespace Go.Proofs.Ytnplghcbdaiogaa.PA
open Go.RowKit Go.Proofs.YtnplghcbdaiogaaW.PrintWords Go.Proofs.YtnplghcbdaiogaaW.PrintLast Go.Proofs.YtnplghcbdaiogaaW.PrintMore
attribute [local go_sem] max2_int min2_int max_two min_two max_three min_three max_four min_four
set_option linter.unusedVariables false
set_option linter.unusedSimpArgs false
set_option maxHeartbeats 60000000
set_option maxRecDepth 100000
def impl_Mix_feed.l0 : Nat → ByteArray → Int → Int → Int → Int → Int → Option (Int × Int × Int)
 | 0, _, _, _, _, _, _ => none
 | k + 1, x1, x7, x8, x10, x11, x12 => if x8 < x7 then (if 0 ≤ x8 then (if x8 < (x1.size : Int) then (impl_Mix_feed.l0 k x1 x7 (wrap64 (x8 + 1)) (Int.tmod (wrap64 (x10 + (wrap64 (bt x1 x8)))) 65521) (Int.tmod (wrap64 (x11 + (Int.tmod (wrap64 (x10 + (wrap64 (bt x1 x8)))) 65521))) 65521) x12) else (none)) else (none)) else (some (x10, x11, wrap64 (x12 + (x1.size : Int))))
def impl_Mix_feed.f (k : Nat) (a0_0 : Int) (a0_1 : Int) (a0_2 : Int) (a1 : ByteArray) : Option (Int × Int × Int) := impl_Mix_feed.l0 k a1 (a1.size : Int) 0 a0_0 a0_1 a0_2
def impl_Mix_feed.T4 : Bool × List (List Nat × List Nat) := (true, [([], []), ([0], [0]), ([], []), ([], []), ([2, 3], [2, 3]), ([4], [4]), ([1, 5], [1, 5]), ([6], [6]), ([0, 1, 2, 3, 4, 5, 6, 7], []), ([8, 7, 0, 1, 2, 3, 4, 5, 6, 7], [7, 8])])
def impl_Mix_feed.B4 : List Nat := [0, 1, 0, 0, 12, 28, 63, 127, 255, 511]
theorem impl_Mix_feed.tab4 : rtab .any (opsOf Try.f89 4) = impl_Mix_feed.T4 := by kernel_rfl
theorem impl_Mix_feed.bits4 : waitsOk impl_Mix_feed.T4.2 impl_Mix_feed.B4 = true := by kernel_rfl
theorem impl_Mix_feed.calls (k : Nat) (a0_0 : Int) (a0_1 : Int) (a0_2 : Int) (a1 : ByteArray) (r1 : Int) (r2 : Int) (r3 : Int) (w : World) (h : impl_Mix_feed.f k a0_0 a0_1 a0_2 a1 = some (r1, r2, r3)) :
  Calls Try.prog 89 #[.agg #[.int .i64 a0_0, .int .i64 a0_1, .int .i64 a0_2], .string a1] w fun e w' => e = .returned (.agg #[.int .i64 r1, .int .i64 r2, .int .i64 r3]) ∧ Below w.heap.size w w' := by
 have hu114 := Try.underlying114; have HB := zA (Below.refl w.heap.size w); have H : (impl_Mix_feed.l0 k a1 (a1.size : Int) 0 a0_0 a0_1 a0_2) = some (r1, r2, r3) := h; clear h; have H' := zA H; clear H; go_enter Try.func89, Try.ntmps89; go_wp2_with (first | ((with_reducible refine gate_dst (N := 2) rfl ?_); refine box_event ?hg (N := 2) ?hd (cs := #[.int .i64 a0_0, .int .i64 a0_1, .int .i64 a0_2]) (t := 114) ?hr ?_; (case hd => rfl); (case hg => rfl); (case hr => first | (go_simp; done) | (go_simp; rfl)); intro gb16 hg w3 hbox hb; have n0_ := zA (zAD HB.out hb); have n1_ := zA (hbox); have n2_ := zA ((by rw [hg]; exact (zAE HB.out) : w.heap.size ≤ gb16)); have n3_ := zA ((by rw [hg]; exact (zAE HB.out) : w.heap.size ≤ gb16)); clear HB; have HB := n0_; have BK16 := n1_; have GW16 := n2_; have GE16 := n3_; clear n0_ n1_ n2_ n3_; clear hb hbox hg) | ((with_reducible refine gate_dst (N := 4) rfl ?_); refine box_event ?hg (N := 4) ?hd (cs := #[.int .i64 0, .int .i64 0, .int .i64 0]) (t := 114) ?hr ?_; (case hd => rfl); (case hg => rfl); (case hr => first | (go_simp; done) | (go_simp; rfl)); intro gb17 hg w4 hbox hb; have n0_ := zA (yE BK16.out hb); have n1_ := zA (zAD HB.out hb); have n2_ := zA (hbox); have n3_ := zA ((by rw [hg]; exact (zAE HB.out) : w.heap.size ≤ gb17)); have n4_ := zA ((by rw [hg]; exact (zAE HB.out) : w.heap.size ≤ gb17)); have n5_ := zA ((by rw [hg]; exact zK (blk_lt BK16.out) : gb16 ≠ gb17)); have n6_ := zA ((by rw [hg]; exact Nat.ne_of_gt (blk_lt BK16.out) : gb17 ≠ gb16)); clear BK16; clear HB; have BK16 := n0_; have HB := n1_; have BK17 := n2_; have GW17 := n3_; have GE17 := n4_; have NB16_17 := n5_; have NB17_16 := n6_; clear n0_ n1_ n2_ n3_ n4_ n5_ n6_; clear hb hbox hg)); go_loopg [8] k (fun kq v8 w' => ∃ (x8_1 : Int) (x18_1 : Int) (x19_1 : Int), v8 = .int .i64 x8_1 ∧ Aside0 (impl_Mix_feed.l0 kq a1 (a1.size : Int) x8_1 x18_1 x19_1 a0_2 = some (r1, r2, r3)) ∧ Aside0 (kq ≤ k) ∧ Aside0 (w'.heap[gb16]? = some (.cells #[.int .i64 x18_1, .int .i64 x19_1, .int .i64 a0_2] 114 (0, 0))) ∧ Aside0 (w'.heap[gb17]? = some (.cells #[.int .i64 0, .int .i64 0, .int .i64 0] 114 (0, 0))) ∧ Aside0 (Below w.heap.size w w'))
 case atStart => exact ⟨(0), (a0_0), (a0_1), rfl, H', ⟨Nat.le_refl _⟩, ⟨by (with_reducible repeat (first | refine zL ?_ _ | refine zN ?_ | refine zM ?_ _)); exact BK16.out⟩, ⟨by (with_reducible repeat (first | refine zL ?_ _ | refine zN ?_ | refine zM ?_ _)); exact BK17.out⟩, ⟨HB.out⟩⟩
 case round =>
  clear H'
  try clear p2
  obtain ⟨x8_1, x18_1, x19_1, rfl, HA, HK1, BK16, BK17, HB⟩ := hrel
  cases gk with
  | zero => exact absurd HA.out (by simp [impl_Mix_feed.l0])
  | succ k1 =>
   have H := HA.out; clear HA; simp only [impl_Mix_feed.l0] at H
   by_cases c5 : x8_1 < (a1.size : Int)
   ·rw [if_pos c5] at H
    have c5b0 : decide (x8_1 < (a1.size : Int)) = true := zX c5; clear c5
    by_cases c6 : 0 ≤ x8_1
    ·rw [if_pos c6] at H
     have c6b0 : decide (0 ≤ x8_1) = true := zX c6; clear c6
     by_cases c7 : x8_1 < (a1.size : Int)
     ·rw [if_pos c7] at H
      have c7b0 : decide (x8_1 < (a1.size : Int)) = true := zX c7; clear c7; have H' := zA H; clear H
      try go_wp2
      have n0_ := zA (zN BK16.out); have n1_ := zA (zN BK17.out); have n2_ := zA (zG HB.out); clear BK16 BK17 HB; have BK16 := n0_; have BK17 := n1_; have HB := n2_; clear n0_ n1_ n2_; have p8 : 0 ≤ (x8_1 : Int) := zW (by assumption); have q8 : x8_1 < (a1.size : Int) := zW (by assumption); have hx8 := bt_at a1 x8_1; replace p8 := eq_true p8; replace q8 := eq_true q8; refine start_ (n := 10) (S := fun w' => w'.cell? ⟨gb16, 0, none⟩ = some (.int .i64 x18_1) ∧ w'.cell? ⟨gb16, 1, none⟩ = some (.int .i64 x19_1) ∧ w'.cell? ⟨gb16, 2, none⟩ = some (.int .i64 a0_2)) (ds := [9]) (bA 10 0) (by kernel_rfl) rfl rfl ⟨(zP BK16.out 0).trans rfl, (zP BK16.out 1).trans rfl, (zP BK16.out 2).trans rfl⟩ (fun hHeld => ?_); refine with_tabW impl_Mix_feed.tab4 impl_Mix_feed.bits4 (fun HT_ HW_ => ?_); generalize wr.drew = w9 at BK16 BK17 HB hHeld ⊢; refine wzP 0 11 (bA 10 1) HT_ ?_
      refine wzP 2 13 (bA 10 5) HT_ ?_
      refine wzP 3 14 (bA 10 13) HT_ ?_
      refine wzT 1 12 (bA 10 15) HT_ HW_ hHeld ?_
      refine wzT 4 15 (bA 10 31) HT_ HW_ hHeld ?_
      refine wzP 5 16 (bA 10 63) HT_ ?_
      refine wzP 6 17 (bA 10 127) HT_ ?_
      refine wzP 7 18 (bA 10 255) HT_ ?_
      refine wzP 8 19 (bA 10 511) HT_ ?_
      refine last_ (i := 9) (N := none) (bA 10 1023) rfl rfl (one_of HT_.out (by kernel_rfl)) (by decide) (fun K hK => ?_); have hs10 : w9.cell? ⟨gb16, 0, none⟩ = some (.int .i64 x18_1) := (zP BK16.out 0).trans rfl; have hfs10 := zO BK16.out 0; have hns10_1 := NB17_16.out; have hms10_1 := NB16_17.out; refine skip_ (w1 := ?_) (by rfl) rfl ?_ ?_; rotate_left
      ·go_simp
       rfl
      refine hK.out _ _ ?_; clear hK K; refine done_ (done_of HT_.out (by kernel_rfl)) ?_; have hnb11 := NB16_17.out; have hnc11 := NB17_16.out; have hcz12_0 := yL BK16.out 0 (.int .i64 x18_1) rfl; have hcz12_1 := yL BK16.out 1 (.int .i64 x19_1) rfl; have hcz12_2 := yL BK16.out 2 (.int .i64 a0_2) rfl; have hfz12_0 := zO BK16.out 0; have hfz12_1 := zO BK16.out 1; have hfz12_2 := zO BK16.out 2
      try go_wp2
      go_roundg k1
      case measure => have := HK1.out; omega
      case rel => exact ⟨(wrap64 (x8_1 + 1)), (Int.tmod (wrap64 (x18_1 + (wrap64 (bt a1 x8_1)))) 65521), (Int.tmod (wrap64 (x19_1 + (Int.tmod (wrap64 (x18_1 + (wrap64 (bt a1 x8_1)))) 65521))) 65521), rfl, H', ⟨by have := HK1.out; omega⟩, ⟨by (with_reducible repeat (first | refine zL ?_ _ | refine zN ?_ | refine zM ?_ _)); refine blk_put (cs := #[.int .i64 (Int.tmod (wrap64 (x18_1 + (wrap64 (bt a1 x8_1)))) 65521), .int .i64 x19_1, .int .i64 a0_2]) ?_ 1 _ rfl; (with_reducible repeat (first | refine zL ?_ _ | refine zN ?_ | refine zM ?_ _)); refine blk_put (cs := #[.int .i64 x18_1, .int .i64 x19_1, .int .i64 a0_2]) ?_ 0 _ rfl; (with_reducible repeat (first | refine zL ?_ _ | refine zN ?_ | refine zM ?_ _)); exact BK16.out⟩, ⟨by (with_reducible repeat (first | refine zL ?_ _ | refine zN ?_ | refine zM ?_ _)); refine blk_far ?_ NB17_16.out _; (with_reducible repeat (first | refine zL ?_ _ | refine zN ?_ | refine zM ?_ _)); refine blk_far ?_ NB17_16.out _; (with_reducible repeat (first | refine zL ?_ _ | refine zN ?_ | refine zM ?_ _)); exact BK17.out⟩, ⟨by repeat (first | (with_reducible first | exact HB.out | apply zH | apply zF | apply zG | refine zI ?_ GE16.out | refine zI ?_ GE17.out) | exact HB.out)⟩⟩
     ·rw [if_neg c7] at H
      exact absurd H (by simp)
    ·rw [if_neg c6] at H
     exact absurd H (by simp)
   ·rw [if_neg c5] at H
    have c5b0 : decide (x8_1 < (a1.size : Int)) = false := decide_eq_false c5; clear c5; simp only [Option.some.injEq, Prod.mk.injEq] at H; obtain ⟨rfl, rfl, rfl⟩ := H; have hnb13 := NB16_17.out; have hnc13 := NB17_16.out; have hcz14_0 := yL BK16.out 0 (.int .i64 x18_1) rfl; have hcz14_1 := yL BK16.out 1 (.int .i64 x19_1) rfl; have hcz14_2 := yL BK16.out 2 (.int .i64 a0_2) rfl; have hfz14_0 := zO BK16.out 0; have hfz14_1 := zO BK16.out 1; have hfz14_2 := zO BK16.out 2; have hcz15_0 := yL BK17.out 0 (.int .i64 0) rfl; have hcz15_1 := yL BK17.out 1 (.int .i64 0) rfl; have hcz15_2 := yL BK17.out 2 (.int .i64 0) rfl; have hfz15_0 := zO BK17.out 0; have hfz15_1 := zO BK17.out 1; have hfz15_2 := zO BK17.out 2; go_wp2; refine bodyPost_ret (results_cell_row rfl _ _ gb17 114 #[.int .i64 x18_1, .int .i64 x19_1, .int .i64 (wrap64 (a0_2 + (a1.size : Int)))] (0, 0) _ rfl (by (with_reducible repeat (first | refine zL ?_ _ | refine zN ?_ | refine zM ?_ _)); refine blk_put (cs := #[.int .i64 x18_1, .int .i64 x19_1, .int .i64 0]) ?_ 2 _ rfl; (with_reducible repeat (first | refine zL ?_ _ | refine zN ?_ | refine zM ?_ _)); refine blk_put (cs := #[.int .i64 x18_1, .int .i64 0, .int .i64 0]) ?_ 1 _ rfl; (with_reducible repeat (first | refine zL ?_ _ | refine zN ?_ | refine zM ?_ _)); refine blk_put (cs := #[.int .i64 0, .int .i64 0, .int .i64 0]) ?_ 0 _ rfl; (with_reducible repeat (first | refine zL ?_ _ | refine zN ?_ | refine zM ?_ _)); refine blk_far ?_ NB17_16.out _; (with_reducible repeat (first | refine zL ?_ _ | refine zN ?_ | refine zM ?_ _)); exact BK17.out) Try.underlying114 rfl (by kernel_rfl)) rfl ?_; exact ⟨by first | rfl | (simp <;> rfl) | (simp [*] <;> rfl), by repeat (first | (with_reducible first | exact HB.out | apply zH | apply zF | apply zG | refine zI ?_ GE16.out | refine zI ?_ GE17.out) | exact HB.out)⟩
def impl_Mix_end.f (a0_0 : Int) (a0_1 : Int) (a0_2 : Int) : Option (ByteArray) := some (strOfNums (([(wrap64 (Int.tdiv a0_1 256)) % 256, (Int.tmod a0_1 256) % 256, (wrap64 (Int.tdiv a0_0 256)) % 256, (Int.tmod a0_0 256) % 256] : List Int)))
theorem impl_Mix_end.calls (a0_0 : Int) (a0_1 : Int) (a0_2 : Int) (r : ByteArray) (w : World) (h : impl_Mix_end.f a0_0 a0_1 a0_2 = some r) :
  Calls Try.prog 90 #[.agg #[.int .i64 a0_0, .int .i64 a0_1, .int .i64 a0_2]] w fun e w' => e = .returned (.string r) ∧ Below w.heap.size w w' := by
 have hu114 := Try.underlying114; have HB := zA (Below.refl w.heap.size w); have H : (some (strOfNums (([(wrap64 (Int.tdiv a0_1 256)) % 256, (Int.tmod a0_1 256) % 256, (wrap64 (Int.tdiv a0_0 256)) % 256, (Int.tmod a0_0 256) % 256] : List Int)))) = some r := h; clear h; obtain ⟨y10, hy10⟩ : ∃ y_ : List Int, y_ = (([(wrap64 (Int.tdiv a0_1 256)) % 256, (Int.tmod a0_1 256) % 256, (wrap64 (Int.tdiv a0_0 256)) % 256, (Int.tmod a0_0 256) % 256] : List Int)) := ⟨_, rfl⟩; replace H : (some (strOfNums y10)) = some r := by first | (rw [hy10]; with_reducible exact H) | (have H2_ := (Option.bind_some _ _).symm.trans H; rw [hy10]; with_reducible exact H2_) | (have H2_ := (Option.bind_some _ _).symm.trans H; with_reducible exact H2_) | with_reducible exact H | (rw [hy10]; exact H) | exact H
 have Ny10 := zA hy10; clear hy10; obtain rfl := yM H; go_enter Try.func90, Try.ntmps90; go_wp2_with (first | ((with_reducible refine gate_dst (N := 1) rfl ?_); refine box_event ?hg (N := 1) ?hd (cs := #[.int .i64 a0_0, .int .i64 a0_1, .int .i64 a0_2]) (t := 114) ?hr ?_; (case hd => rfl); (case hg => rfl); (case hr => first | (go_simp; done) | (go_simp; rfl)); intro gb11 hg w2 hbox hb; have n0_ := zA (zAD HB.out hb); have n1_ := zA (hbox); have n2_ := zA ((by rw [hg]; exact (zAE HB.out) : w.heap.size ≤ gb11)); have n3_ := zA ((by rw [hg]; exact (zAE HB.out) : w.heap.size ≤ gb11)); clear HB; have HB := n0_; have BK11 := n1_; have GW11 := n2_; have GE11 := n3_; clear n0_ n1_ n2_ n3_; clear hb hbox hg; have hcz3_0 := yL BK11.out 0 (.int .i64 a0_0) rfl; have hcz3_1 := yL BK11.out 1 (.int .i64 a0_1) rfl; have hcz3_2 := yL BK11.out 2 (.int .i64 a0_2) rfl; have hfz3_0 := zO BK11.out 0; have hfz3_1 := zO BK11.out 1; have hfz3_2 := zO BK11.out 2) | ((with_reducible refine gate_dst (N := 19) rfl ?_); refine Kd.R_lit (Kd.int .u8) _ 5 ?hg (N := 19) ?hd (xs := ([(wrap64 (Int.tdiv a0_1 256)) % 256, (Int.tmod a0_1 256) % 256, (wrap64 (Int.tdiv a0_0 256)) % 256, (Int.tmod a0_0 256) % 256] : List Int)) (inner := [.int .u8 ((wrap64 (Int.tdiv a0_1 256)) % 256), .int .u8 ((Int.tmod a0_1 256) % 256), .int .u8 ((wrap64 (Int.tdiv a0_0 256)) % 256), .int .u8 ((Int.tmod a0_0 256) % 256)]) (ok := fun _ => True) (okp := fun _ => True) ?hr ?hp (fun _ hk => hk) trivial (Below.refl _ _) (Nat.le_refl _) (by simp) ?_; (case hd => rfl); (case hg => rfl); (case hr => first | (go_simp; done) | (go_simp; rfl)); (case hp => exact (Reps.one (show Kd.M (Kd.int .u8) _ _ _ ((wrap64 (Int.tdiv a0_1 256)) % 256) [.int .u8 ((wrap64 (Int.tdiv a0_1 256)) % 256)] from rfl) (Reps.one (show Kd.M (Kd.int .u8) _ _ _ ((Int.tmod a0_1 256) % 256) [.int .u8 ((Int.tmod a0_1 256) % 256)] from rfl) (Reps.one (show Kd.M (Kd.int .u8) _ _ _ ((wrap64 (Int.tdiv a0_0 256)) % 256) [.int .u8 ((wrap64 (Int.tdiv a0_0 256)) % 256)] from rfl) (Reps.one (show Kd.M (Kd.int .u8) _ _ _ ((Int.tmod a0_0 256) % 256) [.int .u8 ((Int.tmod a0_0 256) % 256)] from rfl) (Reps.none _ _)))))); intro v12 w4 ho5 hb hg_ hnew_; clear hg_ hnew_; (first | rw [← Ny10.out] at ho5 | (simp only [Int.reduceToNat] at ho5; rw [← Ny10.out] at ho5)); have n0_ := zA (Kd.R_lower ho5 (zAE HB.out)); have n1_ := zA (yE BK11.out hb); have n2_ := zA (zAD HB.out hb); clear BK11; clear HB; have HO13 := n0_; have BK11 := n1_; have HB := n2_; clear n0_ n1_ n2_; clear hb ho5; have hcv6 := own_string (P := Try.prog) Try.underlying119 Try.underlying5 Try.underlying9 (Kd.own_of_R HO13.out))); go_ret; exact ⟨by first | rfl | (simp <;> rfl) | (simp [*] <;> rfl), HB.out⟩
def impl_digest.f (k : Nat) (a0 : Int) (a1 : ByteArray) : Option (ByteArray) := (impl_newMix.f a0).bind fun bt10 => ((impl_Mix_feed.f k bt10.1 bt10.2.1 bt10.2.2 a1).bind fun bt11 => ((impl_Mix_end.f bt11.1 bt11.2.1 bt11.2.2).bind fun t12 => (some t12)))
theorem impl_digest.calls (k : Nat) (a0 : Int) (a1 : ByteArray) (r : ByteArray) (w : World) (h : impl_digest.f k a0 a1 = some r) :
  Calls Try.prog 66 #[.int .u8 a0, .string a1] w fun e w' => e = .returned (.string r) ∧ Below w.heap.size w w' := by
 have HB := zA (Below.refl w.heap.size w); have H : ((impl_newMix.f a0).bind fun bt10 => ((impl_Mix_feed.f k bt10.1 bt10.2.1 bt10.2.2 a1).bind fun bt11 => ((impl_Mix_end.f bt11.1 bt11.2.1 bt11.2.2).bind fun t12 => (some t12)))) = some r := h; clear h; replace H := zAF H; obtain ⟨⟨t10, t13, t14⟩, A30, H⟩ := H; replace H : ((impl_Mix_feed.f k t10 t13 t14 a1).bind fun bt11 => ((impl_Mix_end.f bt11.1 bt11.2.1 bt11.2.2).bind fun t12 => (some t12))) = some r := H; have A3 := zA A30; clear A30; replace H := zAF H; obtain ⟨⟨t11, t15, t16⟩, A40, H⟩ := H; replace H : ((impl_Mix_end.f t11 t15 t16).bind fun t12 => (some t12)) = some r := H; have A4 := zA A40; clear A40; replace H := zAF H; obtain ⟨t12, A50, H⟩ := H; replace H : (some t12) = some r := H; have A5 := zA A50; clear A50; obtain rfl := yM H; go_enter Try.func66, Try.ntmps66; go_wp2_with (first | ((with_reducible refine yB (f := 88) rfl ?_); refine goesL_ (some 6) rfl rfl Try.func88 (by kernel_rfl) rfl #[.int .u8 a0] rfl (by (try simp only [zAA, zAB, zAC]); first | done | rfl) ?_; (with_reducible refine (impl_newMix.calls a0 t10 t13 t14 _ A3.out).mono ?_); rintro e w6 ⟨rfl, hb⟩; refine ⟨_, rfl, ?_⟩; have n0_ := zA (zAD HB.out hb); clear HB; have HB := n0_; clear n0_; (try clear hb)) | ((with_reducible refine yB (f := 89) rfl ?_); refine goesL_ (some 8) rfl rfl Try.func89 (by kernel_rfl) rfl #[.agg #[.int .i64 t10, .int .i64 t13, .int .i64 t14], .string a1] rfl (by (try simp only [zAA, zAB, zAC]); first | done | rfl) ?_; (with_reducible refine (impl_Mix_feed.calls k t10 t13 t14 a1 t11 t15 t16 _ A4.out).mono ?_); rintro e w7 ⟨rfl, hb⟩; refine ⟨_, rfl, ?_⟩; have n0_ := zA (zAD HB.out hb); clear HB; have HB := n0_; clear n0_; (try clear hb)) | ((with_reducible refine yB (f := 90) rfl ?_); refine goesL_ (some 9) rfl rfl Try.func90 (by kernel_rfl) rfl #[.agg #[.int .i64 t11, .int .i64 t15, .int .i64 t16]] rfl (by (try simp only [zAA, zAB, zAC]); first | done | rfl) ?_; (with_reducible refine (impl_Mix_end.calls t11 t15 t16 t12 _ A5.out).mono ?_); rintro e w8 ⟨rfl, hb⟩; refine ⟨_, rfl, ?_⟩; have n0_ := zA (zAD HB.out hb); clear HB; have HB := n0_; clear n0_; (try clear hb))); go_ret; exact ⟨by first | rfl | (simp <;> rfl) | (simp [*] <;> rfl), HB.out⟩
def impl_oneByte.f (a0 : Int) : Option (ByteArray) := some (strOfNums (([(a0) % 256] : List Int)))
theorem impl_oneByte.calls (a0 : Int) (r : ByteArray) (w : World) (h : impl_oneByte.f a0 = some r) :
  Calls Try.prog 91 #[.int .i64 a0] w fun e w' => e = .returned (.string r) ∧ Below w.heap.size w w' := by
 have HB := zA (Below.refl w.heap.size w); have H : (some (strOfNums (([(a0) % 256] : List Int)))) = some r := h; clear h; obtain ⟨y10, hy10⟩ : ∃ y_ : List Int, y_ = (([(a0) % 256] : List Int)) := ⟨_, rfl⟩; replace H : (some (strOfNums y10)) = some r := by first | (rw [hy10]; with_reducible exact H) | (have H2_ := (Option.bind_some _ _).symm.trans H; rw [hy10]; with_reducible exact H2_) | (have H2_ := (Option.bind_some _ _).symm.trans H; with_reducible exact H2_) | with_reducible exact H | (rw [hy10]; exact H) | exact H
 have Ny10 := zA hy10; clear hy10; obtain rfl := yM H; go_enter Try.func91, Try.ntmps91; go_wp2_with (first | ((with_reducible refine gate_dst (N := 5) rfl ?_); refine Kd.R_lit (Kd.int .u8) _ 5 ?hg (N := 5) ?hd (xs := ([(a0) % 256] : List Int)) (inner := [.int .u8 ((a0) % 256)]) (ok := fun _ => True) (okp := fun _ => True) ?hr ?hp (fun _ hk => hk) trivial (Below.refl _ _) (Nat.le_refl _) (by simp) ?_; (case hd => rfl); (case hg => rfl); (case hr => first | (go_simp; done) | (go_simp; rfl)); (case hp => exact (Reps.one (show Kd.M (Kd.int .u8) _ _ _ ((a0) % 256) [.int .u8 ((a0) % 256)] from rfl) (Reps.none _ _))); intro v11 w2 ho3 hb hg_ hnew_; clear hg_ hnew_; (first | rw [← Ny10.out] at ho3 | (simp only [Int.reduceToNat] at ho3; rw [← Ny10.out] at ho3)); have n0_ := zA (Kd.R_lower ho3 (zAE HB.out)); have n1_ := zA (zAD HB.out hb); clear HB; have HO12 := n0_; have HB := n1_; clear n0_ n1_; clear hb ho3; have hcv4 := own_string (P := Try.prog) Try.underlying119 Try.underlying5 Try.underlying9 (Kd.own_of_R HO12.out))); go_ret; exact ⟨by first | rfl | (simp <;> rfl) | (simp [*] <;> rfl), HB.out⟩
mutual
def impl_Shown_bytes.l0 : Nat → ByteArray → List ByteArray → Int → Int → List ByteArray → List ByteArray → List ByteArray → Int → Option (ByteArray)
 | 0, _, _, _, _, _, _, _, _ => none
 | k + 1, x3, x13, x14, x15, x10, x11, x12, x16 => if x15 < x14 then (if 0 ≤ x15 then (if x15 < (x13.length : Int) then ((impl_oneByte.f ((rdOf ByteArray.empty x13 x15).size : Int)).bind fun t17 => (if t17.size + (rdOf ByteArray.empty x13 x15).size ≤ 9223372036854775807 then (if x15 < (x11.length : Int) then ((impl_oneByte.f ((rdOf ByteArray.empty x11 x15).size : Int)).bind fun t18 => (if (t17 ++ (rdOf ByteArray.empty x13 x15)).size + t18.size ≤ 9223372036854775807 then (if ((t17 ++ (rdOf ByteArray.empty x13 x15)) ++ t18).size + (rdOf ByteArray.empty x11 x15).size ≤ 9223372036854775807 then (if x3.size + (((t17 ++ (rdOf ByteArray.empty x13 x15)) ++ t18) ++ (rdOf ByteArray.empty x11 x15)).size ≤ 9223372036854775807 then (impl_Shown_bytes.l0 k (x3 ++ (((t17 ++ (rdOf ByteArray.empty x13 x15)) ++ t18) ++ (rdOf ByteArray.empty x11 x15))) x13 x14 (wrap64 (x15 + 1)) x10 x11 x12 x16) else (none)) else (none)) else (none))) else (none)) else (none))) else (none)) else (none)) else ((impl_oneByte.f (x12.length : Int)).bind fun t19 => (if x3.size + t19.size ≤ 9223372036854775807 then (impl_Shown_bytes.l1 k (x3 ++ t19) x12 (x12.length : Int) 0) else (none)))
def impl_Shown_bytes.l1 : Nat → ByteArray → List ByteArray → Int → Int → Option (ByteArray)
 | 0, _, _, _, _ => none
 | k + 1, x3, x49, x50, x51 => if x51 < x50 then (if 0 ≤ x51 then (if x51 < (x49.length : Int) then (if x3.size + (rdOf ByteArray.empty x49 x51).size ≤ 9223372036854775807 then (impl_Shown_bytes.l1 k (x3 ++ (rdOf ByteArray.empty x49 x51)) x49 x50 (wrap64 (x51 + 1))) else (none)) else (none)) else (none)) else (some x3)
end
def impl_Shown_bytes.f (k : Nat) (l0_0 : List ByteArray) (l0_1 : List ByteArray) (l0_2 : List ByteArray) (a0_3 : Int) : Option (ByteArray) := (impl_oneByte.f (l0_0.length : Int)).bind fun t10 => (impl_Shown_bytes.l0 k t10 l0_0 (l0_0.length : Int) 0 l0_0 l0_1 l0_2 a0_3)
def impl_Shown_bytes.T5 : Bool × List (List Nat × List Nat) := (true, [([], []), ([], []), ([1], [1]), ([2], [2]), ([], []), ([3, 4], [3, 4]), ([], []), ([6], [6]), ([], []), ([7, 8], [7, 8]), ([9], [9]), ([10], [10]), ([11, 3], [11]), ([5, 12], [5, 12]), ([], []), ([14], [14]), ([], []), ([15, 16], [15, 16]), ([17], [17]), ([13, 18], [13, 18]), ([0, 19], [0, 19]), ([20, 12, 0, 1, 2, 3, 4, 5, 6, 7, 8, 9, 10, 11, 12, 13, 14, 15, 16, 17, 18, 19, 20], [0, 20])])
def impl_Shown_bytes.B5 : List Nat := [0, 0, 2, 6, 0, 30, 0, 64, 0, 448, 960, 1984, 4046, 8190, 0, 16384, 0, 114688, 245760, 524286, 1048575, 2097151]
theorem impl_Shown_bytes.tab5 : rtab .any (opsOf Try.f67 5) = impl_Shown_bytes.T5 := by kernel_rfl
theorem impl_Shown_bytes.bits5 : waitsOk impl_Shown_bytes.T5.2 impl_Shown_bytes.B5 = true := by kernel_rfl
theorem impl_Shown_bytes.calls (k : Nat) (A0_0 : Option Addr) (c0_0 : Nat) (l0_0 : List ByteArray) (A0_1 : Option Addr) (c0_1 : Nat) (l0_1 : List ByteArray) (A0_2 : Option Addr) (c0_2 : Nat) (l0_2 : List ByteArray) (a0_3 : Int) (r : ByteArray) (w : World) (hr0_0 : Kd.C Kd.string w A0_0 l0_0.length l0_0) (hc0_0 : l0_0.length ≤ c0_0) (hr0_1 : Kd.C Kd.string w A0_1 l0_1.length l0_1) (hc0_1 : l0_1.length ≤ c0_1) (hr0_2 : Kd.C Kd.string w A0_2 l0_2.length l0_2) (hc0_2 : l0_2.length ≤ c0_2) (h : impl_Shown_bytes.f k l0_0 l0_1 l0_2 a0_3 = some r) :
  Calls Try.prog 67 #[.agg #[.slice A0_0 l0_0.length c0_0, .slice A0_1 l0_1.length c0_1, .slice A0_2 l0_2.length c0_2, .int .i64 a0_3]] w fun e w' => e = .returned (.string r) ∧ Below w.heap.size w w' := by
 have hu43 := Try.underlying43; have HR0_0 := zA hr0_0; have HC0_0 := zA hc0_0; clear hr0_0 hc0_0; have HR0_1 := zA hr0_1; have HC0_1 := zA hc0_1; clear hr0_1 hc0_1; have HR0_2 := zA hr0_2; have HC0_2 := zA hc0_2; clear hr0_2 hc0_2; have HB := zA (Below.refl w.heap.size w); have H : ((impl_oneByte.f (l0_0.length : Int)).bind fun t29 => (impl_Shown_bytes.l0 k t29 l0_0 (l0_0.length : Int) 0 l0_0 l0_1 l0_2 a0_3)) = some r := h; clear h; replace H := zAF H; obtain ⟨t29, A20, H⟩ := H; replace H : (impl_Shown_bytes.l0 k t29 l0_0 (l0_0.length : Int) 0 l0_0 l0_1 l0_2 a0_3) = some r := H; have A2 := zA A20; clear A20; have H' := zA H; clear H; go_enter Try.func67, Try.ntmps67; go_wp2_with (first | ((with_reducible refine gate_dst (N := 1) rfl ?_); refine box_event ?hg (N := 1) ?hd (cs := #[.slice A0_0 l0_0.length c0_0, .slice A0_1 l0_1.length c0_1, .slice A0_2 l0_2.length c0_2, .int .i64 a0_3]) (t := 43) ?hr ?_; (case hd => rfl); (case hg => rfl); (case hr => first | (go_simp; done) | (go_simp; rfl)); intro gb30 hg w3 hbox hb; have n0_ := zA (zAD HB.out hb); have n1_ := zA (hbox); have n2_ := zA ((by rw [hg]; exact (zAE HB.out) : w.heap.size ≤ gb30)); have n3_ := zA ((by rw [hg]; exact (zAE HB.out) : w.heap.size ≤ gb30)); clear HB; have HB := n0_; have BK30 := n1_; have GW30 := n2_; have GE30 := n3_; clear n0_ n1_ n2_ n3_; clear hb hbox hg; have hcz4_0 := yL BK30.out 0 (.slice A0_0 l0_0.length c0_0) rfl; have hcz4_1 := yL BK30.out 1 (.slice A0_1 l0_1.length c0_1) rfl; have hcz4_2 := yL BK30.out 2 (.slice A0_2 l0_2.length c0_2) rfl; have hcz4_3 := yL BK30.out 3 (.int .i64 a0_3) rfl; have hfz4_0 := zO BK30.out 0; have hfz4_1 := zO BK30.out 1; have hfz4_2 := zO BK30.out 2; have hfz4_3 := zO BK30.out 3) | ((with_reducible refine yB (f := 91) rfl ?_); refine goesL_ (some 11) rfl rfl Try.func91 (by kernel_rfl) rfl #[.int .i64 (l0_0.length : Int)] rfl (by (try simp only [zAA, zAB, zAC]); first | done | rfl | (simp only [zZ, zY]; rfl)) ?_; (with_reducible refine (impl_oneByte.calls (l0_0.length : Int) t29 _ A2.out).mono ?_); rintro e w5 ⟨rfl, hb⟩; refine ⟨_, rfl, ?_⟩; have n0_ := zA (yE BK30.out hb); have n1_ := zA (zAD HB.out hb); clear BK30; clear HB; have BK30 := n0_; have HB := n1_; clear n0_ n1_; (try clear hb); have hcz6_0 := yL BK30.out 0 (.slice A0_0 l0_0.length c0_0) rfl; have hcz6_1 := yL BK30.out 1 (.slice A0_1 l0_1.length c0_1) rfl; have hcz6_2 := yL BK30.out 2 (.slice A0_2 l0_2.length c0_2) rfl; have hcz6_3 := yL BK30.out 3 (.int .i64 a0_3) rfl; have hfz6_0 := zO BK30.out 0; have hfz6_1 := zO BK30.out 1; have hfz6_2 := zO BK30.out 2; have hfz6_3 := zO BK30.out 3)); go_loopg [3, 15] k (fun kq v3 v15 w' => ∃ (x3_1 : ByteArray) (x15_1 : Int), v3 = .string x3_1 ∧ v15 = .int .i64 x15_1 ∧ Aside0 (impl_Shown_bytes.l0 kq x3_1 l0_0 (l0_0.length : Int) x15_1 l0_0 l0_1 l0_2 a0_3 = some r) ∧ Aside0 (kq ≤ k) ∧ Aside0 (w'.heap[gb30]? = some (.cells #[(.slice A0_0 l0_0.length c0_0), (.slice A0_1 l0_1.length c0_1), (.slice A0_2 l0_2.length c0_2), .int .i64 a0_3] 43 (0, 0))) ∧ Aside0 (Below w.heap.size w w'))
 case atStart => exact ⟨(t29), (0), rfl, rfl, H', ⟨Nat.le_refl _⟩, ⟨by (with_reducible repeat (first | refine zL ?_ _ | refine zN ?_ | refine zM ?_ _)); exact BK30.out⟩, ⟨HB.out⟩⟩
 case round =>
  clear H'
  try clear p2
  try clear c6
  try clear hcz4_0
  try clear hcz4_1
  try clear hcz4_2
  try clear hcz4_3
  try clear hcz6_0
  try clear hcz6_1
  try clear hcz6_2
  try clear hcz6_3
  try clear hfz4_0
  try clear hfz4_1
  try clear hfz4_2
  try clear hfz4_3
  try clear hfz6_0
  try clear hfz6_1
  try clear hfz6_2
  try clear hfz6_3
  obtain ⟨x3_1, x15_1, rfl, rfl, HA, HK1, BK30, HB⟩ := hrel
  cases gk with
  | zero => exact absurd HA.out (by simp [impl_Shown_bytes.l0])
  | succ k1 =>
   have H := HA.out; clear HA; simp only [impl_Shown_bytes.l0] at H
   by_cases c7 : x15_1 < (l0_0.length : Int)
   ·rw [if_pos c7] at H
    have c7b0 : decide (x15_1 < (l0_0.length : Int)) = true := zX c7; clear c7
    by_cases c8 : 0 ≤ x15_1
    ·rw [if_pos c8] at H
     have c8b0 : decide (0 ≤ x15_1) = true := zX c8; clear c8
     by_cases c9 : x15_1 < (l0_0.length : Int)
     ·rw [if_pos c9] at H
      have c9b0 : decide (x15_1 < (l0_0.length : Int)) = true := zX c9; clear c9; replace H := zAF H; obtain ⟨t31, A33, H⟩ := H; replace H : (if t31.size + (rdOf ByteArray.empty l0_0 x15_1).size ≤ 9223372036854775807 then (if x15_1 < (l0_1.length : Int) then ((impl_oneByte.f ((rdOf ByteArray.empty l0_1 x15_1).size : Int)).bind fun t34 => (if (t31 ++ (rdOf ByteArray.empty l0_0 x15_1)).size + t34.size ≤ 9223372036854775807 then (if ((t31 ++ (rdOf ByteArray.empty l0_0 x15_1)) ++ t34).size + (rdOf ByteArray.empty l0_1 x15_1).size ≤ 9223372036854775807 then (if x3_1.size + (((t31 ++ (rdOf ByteArray.empty l0_0 x15_1)) ++ t34) ++ (rdOf ByteArray.empty l0_1 x15_1)).size ≤ 9223372036854775807 then (impl_Shown_bytes.l0 k1 (x3_1 ++ (((t31 ++ (rdOf ByteArray.empty l0_0 x15_1)) ++ t34) ++ (rdOf ByteArray.empty l0_1 x15_1))) l0_0 (l0_0.length : Int) (wrap64 (x15_1 + 1)) l0_0 l0_1 l0_2 a0_3) else (none)) else (none)) else (none))) else (none)) else (none)) = some r := H; have A10 := zA A33; clear A33
      by_cases c11 : t31.size + (rdOf ByteArray.empty l0_0 x15_1).size ≤ 9223372036854775807
      ·rw [if_pos c11] at H
       have c11b0 := eq_true c11; have c11b1 : decide (t31.size + (rdOf ByteArray.empty l0_0 x15_1).size ≤ 9223372036854775807) = true := zX c11
       try have c11b2 : (9223372036854775807 < t31.size + (rdOf ByteArray.empty l0_0 x15_1).size) = False := eq_false (Nat.not_lt.2 c11)
       by_cases c12 : x15_1 < (l0_1.length : Int)
       ·rw [if_pos c12] at H
        have c12b0 : decide (x15_1 < (l0_1.length : Int)) = true := zX c12; clear c12; replace H := zAF H; obtain ⟨t34, A35, H⟩ := H; replace H : (if (t31 ++ (rdOf ByteArray.empty l0_0 x15_1)).size + t34.size ≤ 9223372036854775807 then (if ((t31 ++ (rdOf ByteArray.empty l0_0 x15_1)) ++ t34).size + (rdOf ByteArray.empty l0_1 x15_1).size ≤ 9223372036854775807 then (if x3_1.size + (((t31 ++ (rdOf ByteArray.empty l0_0 x15_1)) ++ t34) ++ (rdOf ByteArray.empty l0_1 x15_1)).size ≤ 9223372036854775807 then (impl_Shown_bytes.l0 k1 (x3_1 ++ (((t31 ++ (rdOf ByteArray.empty l0_0 x15_1)) ++ t34) ++ (rdOf ByteArray.empty l0_1 x15_1))) l0_0 (l0_0.length : Int) (wrap64 (x15_1 + 1)) l0_0 l0_1 l0_2 a0_3) else (none)) else (none)) else (none)) = some r := H; have A13 := zA A35; clear A35
        by_cases c14 : (t31 ++ (rdOf ByteArray.empty l0_0 x15_1)).size + t34.size ≤ 9223372036854775807
        ·rw [if_pos c14] at H
         have c14b0 := eq_true c14; have c14b1 : decide ((t31 ++ (rdOf ByteArray.empty l0_0 x15_1)).size + t34.size ≤ 9223372036854775807) = true := zX c14; (try (have c14b3 := (show (t31 ++ (rdOf ByteArray.empty l0_0 x15_1)).size + t34.size ≤ 9223372036854775807 from c14); simp only [ByteArray.size_append, ByteArray.size_extract, Nat.min_self, Nat.sub_zero] at c14b3; have c14b4 := eq_true c14b3; have c14b5 : decide (_) = true := zX c14b3; have c14b6 := eq_false (Nat.not_lt.2 c14b3); clear c14b3))
         try have c14b2 : (9223372036854775807 < (t31 ++ (rdOf ByteArray.empty l0_0 x15_1)).size + t34.size) = False := eq_false (Nat.not_lt.2 c14)
         by_cases c15 : ((t31 ++ (rdOf ByteArray.empty l0_0 x15_1)) ++ t34).size + (rdOf ByteArray.empty l0_1 x15_1).size ≤ 9223372036854775807
         ·rw [if_pos c15] at H
          have c15b0 := eq_true c15; have c15b1 : decide (((t31 ++ (rdOf ByteArray.empty l0_0 x15_1)) ++ t34).size + (rdOf ByteArray.empty l0_1 x15_1).size ≤ 9223372036854775807) = true := zX c15; (try (have c15b3 := (show ((t31 ++ (rdOf ByteArray.empty l0_0 x15_1)) ++ t34).size + (rdOf ByteArray.empty l0_1 x15_1).size ≤ 9223372036854775807 from c15); simp only [ByteArray.size_append, ByteArray.size_extract, Nat.min_self, Nat.sub_zero] at c15b3; have c15b4 := eq_true c15b3; have c15b5 : decide (_) = true := zX c15b3; have c15b6 := eq_false (Nat.not_lt.2 c15b3); clear c15b3))
          try have c15b2 : (9223372036854775807 < ((t31 ++ (rdOf ByteArray.empty l0_0 x15_1)) ++ t34).size + (rdOf ByteArray.empty l0_1 x15_1).size) = False := eq_false (Nat.not_lt.2 c15)
          by_cases c16 : x3_1.size + (((t31 ++ (rdOf ByteArray.empty l0_0 x15_1)) ++ t34) ++ (rdOf ByteArray.empty l0_1 x15_1)).size ≤ 9223372036854775807
          ·rw [if_pos c16] at H
           have c16b0 := eq_true c16; have c16b1 : decide (x3_1.size + (((t31 ++ (rdOf ByteArray.empty l0_0 x15_1)) ++ t34) ++ (rdOf ByteArray.empty l0_1 x15_1)).size ≤ 9223372036854775807) = true := zX c16; (try (have c16b3 := (show x3_1.size + (((t31 ++ (rdOf ByteArray.empty l0_0 x15_1)) ++ t34) ++ (rdOf ByteArray.empty l0_1 x15_1)).size ≤ 9223372036854775807 from c16); simp only [ByteArray.size_append, ByteArray.size_extract, Nat.min_self, Nat.sub_zero] at c16b3; have c16b4 := eq_true c16b3; have c16b5 : decide (_) = true := zX c16b3; have c16b6 := eq_false (Nat.not_lt.2 c16b3); clear c16b3))
           try have c16b2 : (9223372036854775807 < x3_1.size + (((t31 ++ (rdOf ByteArray.empty l0_0 x15_1)) ++ t34) ++ (rdOf ByteArray.empty l0_1 x15_1)).size) = False := eq_false (Nat.not_lt.2 c16)
           have H' := zA H; clear H; have p36 : 0 ≤ (x15_1 : Int) := zW (by assumption); have q36 : x15_1 < (l0_0.length : Int) := zW (by assumption); obtain ⟨ad36, e36, hx36_0⟩ := Kd.at_string HR0_0.out x15_1 p36 q36
           cases e36
           replace hx36_0 := (HB.out.cell (zB w _ hx36_0)).trans hx36_0; replace p36 := eq_true p36; replace q36 := eq_true q36
           try go_wp2
           have n0_ := zA (zN BK30.out); have n1_ := zA (zG HB.out); clear BK30 HB; have BK30 := n0_; have HB := n1_; clear n0_ n1_; have p37 : 0 ≤ (x15_1 : Int) := zW (by assumption); have q37 : x15_1 < (l0_1.length : Int) := zW (by assumption); obtain ⟨ad37, e37, hx37_0⟩ := Kd.at_string HR0_1.out x15_1 p37 q37; have hw37_0 := hx37_0
           cases e37
           replace hx37_0 := (HB.out.cell (zB w _ hx37_0)).trans hx37_0; replace p37 := eq_true p37; replace q37 := eq_true q37; have p38 : 0 ≤ (x15_1 : Int) := zW (by assumption); have q38 : x15_1 < (l0_1.length : Int) := zW (by assumption); obtain ⟨ad38, e38, hx38_0⟩ := Kd.at_string HR0_1.out x15_1 p38 q38; have hw38_0 := hx38_0; obtain rfl : ad37 = ad38 := (by injection e38); replace hx38_0 := (HB.out.cell (zB w _ hx38_0)).trans hx38_0; replace p38 := eq_true p38; replace q38 := eq_true q38; refine start_ (n := 22) (S := fun w' => w'.cell? ⟨gb30, 0, none⟩ = some (.slice (some ad36) l0_0.length c0_0) ∧ w'.cell? ⟨gb30, 1, none⟩ = some (.slice (some ad37) l0_1.length c0_1) ∧ w'.cell? ⟨gb30, 2, none⟩ = some (.slice A0_2 l0_2.length c0_2) ∧ w'.cell? ⟨gb30, 3, none⟩ = some (.int .i64 a0_3) ∧ w'.cell? (ad37.add (x15_1).toNat) = some (.string (rdOf ByteArray.empty l0_1 x15_1)) ∧ w'.cell? (ad37.add (x15_1).toNat) = some (.string (rdOf ByteArray.empty l0_1 x15_1))) (ds := []) (bA 22 0) (by kernel_rfl) rfl rfl ⟨(zP BK30.out 0).trans rfl, (zP BK30.out 1).trans rfl, (zP BK30.out 2).trans rfl, (zP BK30.out 3).trans rfl, ((HB.out.cell (zB w _ hw37_0)).trans hw37_0), ((HB.out.cell (zB w _ hw38_0)).trans hw38_0)⟩ (fun hHeld => ?_); refine with_tabW impl_Shown_bytes.tab5 impl_Shown_bytes.bits5 (fun HT_ HW_ => ?_); generalize wr.drew = w17 at BK30 HB hx37_0 hx38_0 hHeld ⊢; refine wzP 0 20 (bA 22 1) HT_ ?_
           refine wzP 1 21 (bA 22 3) HT_ ?_
           refine wzP 2 22 (bA 22 7) HT_ ?_
           refine wzP 4 24 (bA 22 23) HT_ ?_
           refine wzP 6 26 (bA 22 87) HT_ ?_
           refine wzP 8 28 (bA 22 343) HT_ ?_
           refine wzP 14 34 (bA 22 16727) HT_ ?_
           refine wzP 16 36 (bA 22 82263) HT_ ?_
           refine wzT 7 27 (bA 22 82391) HT_ HW_ hHeld ?_
           refine wzP 9 29 (bA 22 82903) HT_ ?_
           refine wzT 10 30 (bA 22 83927) HT_ HW_ hHeld ?_
           refine wzP 11 31 (bA 22 85975) HT_ ?_
           refine wzT 15 35 (bA 22 118743) HT_ HW_ hHeld ?_
           refine wzP 17 37 (bA 22 249815) HT_ ?_
           refine wzT 18 38 (bA 22 511959) HT_ HW_ hHeld ?_
           refine one_ (i := 3) (N := some 23) (bA 22 511967) rfl rfl (one_of HT_.out (by kernel_rfl)) (by decide) (fun K hK => ?_); refine goes_ Try.func91 (by kernel_rfl) rfl #[.int .i64 ((rdOf ByteArray.empty l0_0 x15_1).size : Int)] (by rfl) rfl rfl (by (try simp only [zAA, zAB, zAC]); first | done | rfl) ?_
           with_reducible refine (impl_oneByte.calls ((rdOf ByteArray.empty l0_0 x15_1).size : Int) t31 _ A10.out).mono ?_
           rintro e w18 ⟨rfl, hb⟩; refine ⟨_, rfl, ?_⟩; have n0_ := zA (yE BK30.out hb); have n1_ := zA (zAD HB.out hb); clear BK30 HB; have BK30 := n0_; have HB := n1_; clear n0_ n1_; (try clear hb); refine hK.out _ _ ⟨(zP BK30.out 0).trans rfl, (zP BK30.out 1).trans rfl, (zP BK30.out 2).trans rfl, (zP BK30.out 3).trans rfl, ((HB.out.cell (zB w _ hw37_0)).trans hw37_0), ((HB.out.cell (zB w _ hw38_0)).trans hw38_0)⟩ (fun hHeld => ?_); clear hK K; refine wzN 23 ?_
           refine wzP 5 25 (bA 22 511999) HT_ ?_
           refine one_ (i := 12) (N := some 32) (bA 22 516095) rfl rfl (one_of HT_.out (by kernel_rfl)) (by decide) (fun K hK => ?_); refine goes_ Try.func91 (by kernel_rfl) rfl #[.int .i64 ((rdOf ByteArray.empty l0_1 x15_1).size : Int)] (by rfl) rfl rfl (by (try simp only [zAA, zAB, zAC]); first | done | rfl) ?_
           with_reducible refine (impl_oneByte.calls ((rdOf ByteArray.empty l0_1 x15_1).size : Int) t34 _ A13.out).mono ?_
           rintro e w19 ⟨rfl, hb⟩; refine ⟨_, rfl, ?_⟩; have n0_ := zA (yE BK30.out hb); have n1_ := zA (zAD HB.out hb); clear BK30 HB; have BK30 := n0_; have HB := n1_; clear n0_ n1_; (try clear hb); refine hK.out _ _ ⟨(zP BK30.out 0).trans rfl, (zP BK30.out 1).trans rfl, (zP BK30.out 2).trans rfl, (zP BK30.out 3).trans rfl, ((HB.out.cell (zB w _ hw37_0)).trans hw37_0), ((HB.out.cell (zB w _ hw38_0)).trans hw38_0)⟩ (fun hHeld => ?_); clear hK K; refine wzN 32 ?_
           refine wzP 13 33 (bA 22 524287) HT_ ?_
           refine wzP 19 39 (bA 22 1048575) HT_ ?_
           refine wzP 20 40 (bA 22 2097151) HT_ ?_
           refine wzP 21 3 (bA 22 4194303) HT_ ?_
           refine done_ (done_of HT_.out (by kernel_rfl)) ?_
           try go_wp2
           go_roundg k1
           case measure => have := HK1.out; omega
           case rel => exact ⟨(x3_1 ++ (((t31 ++ (rdOf ByteArray.empty l0_0 x15_1)) ++ t34) ++ (rdOf ByteArray.empty l0_1 x15_1))), (wrap64 (x15_1 + 1)), rfl, rfl, H', ⟨by have := HK1.out; omega⟩, ⟨by (with_reducible repeat (first | refine zL ?_ _ | refine zN ?_ | refine zM ?_ _)); exact BK30.out⟩, ⟨HB.out⟩⟩
          ·rw [if_neg c16] at H
           exact absurd H (by simp)
         ·rw [if_neg c15] at H
          exact absurd H (by simp)
        ·rw [if_neg c14] at H
         exact absurd H (by simp)
       ·rw [if_neg c12] at H
        exact absurd H (by simp)
      ·rw [if_neg c11] at H
       exact absurd H (by simp)
     ·rw [if_neg c9] at H
      exact absurd H (by simp)
    ·rw [if_neg c8] at H
     exact absurd H (by simp)
   ·rw [if_neg c7] at H
    have c7b0 : decide (x15_1 < (l0_0.length : Int)) = false := decide_eq_false c7; clear c7; replace H := zAF H; obtain ⟨t39, A40, H⟩ := H; replace H : (if x3_1.size + t39.size ≤ 9223372036854775807 then (impl_Shown_bytes.l1 k1 (x3_1 ++ t39) l0_2 (l0_2.length : Int) 0) else (none)) = some r := H; have A20 := zA A40; clear A40
    by_cases c21 : x3_1.size + t39.size ≤ 9223372036854775807
    ·rw [if_pos c21] at H
     have c21b0 := eq_true c21; have c21b1 : decide (x3_1.size + t39.size ≤ 9223372036854775807) = true := zX c21
     try have c21b2 : (9223372036854775807 < x3_1.size + t39.size) = False := eq_false (Nat.not_lt.2 c21)
     have H' := zA H; clear H; have hcz22_0 := yL BK30.out 0 (.slice A0_0 l0_0.length c0_0) rfl; have hcz22_1 := yL BK30.out 1 (.slice A0_1 l0_1.length c0_1) rfl; have hcz22_2 := yL BK30.out 2 (.slice A0_2 l0_2.length c0_2) rfl; have hcz22_3 := yL BK30.out 3 (.int .i64 a0_3) rfl; have hfz22_0 := zO BK30.out 0; have hfz22_1 := zO BK30.out 1; have hfz22_2 := zO BK30.out 2; have hfz22_3 := zO BK30.out 3; go_wp2_with (first | ((with_reducible refine yB (f := 91) rfl ?_); refine goesL_ (some 46) rfl rfl Try.func91 (by kernel_rfl) rfl #[.int .i64 (l0_2.length : Int)] rfl (by (try simp only [zAA, zAB, zAC]); first | done | rfl | (simp only [zZ, zY]; rfl)) ?_; (with_reducible refine (impl_oneByte.calls (l0_2.length : Int) t39 _ A20.out).mono ?_); rintro e w23 ⟨rfl, hb⟩; refine ⟨_, rfl, ?_⟩; have n0_ := zA (yE BK30.out hb); have n1_ := zA (zAD HB.out hb); clear BK30; clear HB; have BK30 := n0_; have HB := n1_; clear n0_ n1_; (try clear hb); have hcz24_0 := yL BK30.out 0 (.slice A0_0 l0_0.length c0_0) rfl; have hcz24_1 := yL BK30.out 1 (.slice A0_1 l0_1.length c0_1) rfl; have hcz24_2 := yL BK30.out 2 (.slice A0_2 l0_2.length c0_2) rfl; have hcz24_3 := yL BK30.out 3 (.int .i64 a0_3) rfl; have hfz24_0 := zO BK30.out 0; have hfz24_1 := zO BK30.out 1; have hfz24_2 := zO BK30.out 2; have hfz24_3 := zO BK30.out 3)); go_loopg [3, 51] k1 (fun kq v3 v51 w' => ∃ (x3_2 : ByteArray) (x51_2 : Int), v3 = .string x3_2 ∧ v51 = .int .i64 x51_2 ∧ Aside0 (impl_Shown_bytes.l1 kq x3_2 l0_2 (l0_2.length : Int) x51_2 = some r) ∧ Aside0 (kq ≤ k1) ∧ Aside0 (w'.heap[gb30]? = some (.cells #[(.slice A0_0 l0_0.length c0_0), (.slice A0_1 l0_1.length c0_1), (.slice A0_2 l0_2.length c0_2), .int .i64 a0_3] 43 (0, 0))) ∧ Aside0 (Below w.heap.size w w'))
     case atStart => exact ⟨(x3_1 ++ t39), (0), rfl, rfl, H', ⟨Nat.le_refl _⟩, ⟨by (with_reducible repeat (first | refine zL ?_ _ | refine zN ?_ | refine zM ?_ _)); exact BK30.out⟩, ⟨HB.out⟩⟩
     case round =>
      clear H'
      try clear c1
      try clear c2
      try clear p2
      try clear p4
      try clear q4
      try clear hx4
      try clear c6
      try clear p6
      try clear c7
      try clear c7b0
      try clear c8
      try clear c8b0
      try clear c9
      try clear c9b0
      try clear c11
      try clear c11b0
      try clear c11b1
      try clear c11b2
      try clear c12
      try clear c12b0
      try clear c14
      try clear c14b0
      try clear c14b1
      try clear c14b2
      try clear c15
      try clear c15b0
      try clear c15b1
      try clear c15b2
      try clear c16
      try clear c16b0
      try clear c16b1
      try clear c16b2
      try clear c21
      try clear c21b0
      try clear c21b1
      try clear c21b2
      try clear hcz22_0
      try clear hcz22_1
      try clear hcz22_2
      try clear hcz22_3
      try clear hcz24_0
      try clear hcz24_1
      try clear hcz24_2
      try clear hcz24_3
      try clear hcz4_0
      try clear hcz4_1
      try clear hcz4_2
      try clear hcz4_3
      try clear hcz6_0
      try clear hcz6_1
      try clear hcz6_2
      try clear hcz6_3
      try clear hfz22_0
      try clear hfz22_1
      try clear hfz22_2
      try clear hfz22_3
      try clear hfz24_0
      try clear hfz24_1
      try clear hfz24_2
      try clear hfz24_3
      try clear hfz4_0
      try clear hfz4_1
      try clear hfz4_2
      try clear hfz4_3
      try clear hfz6_0
      try clear hfz6_1
      try clear hfz6_2
      try clear hfz6_3
      try clear hx36_0
      try clear hx37_0
      try clear hx38_0
      try clear p2
      try clear p36
      try clear p37
      try clear p38
      try clear q36
      try clear q37
      try clear q38
      obtain ⟨x3_2, x51_2, rfl, rfl, HA, HK2, BK30, HB⟩ := hrel
      cases gk with
      | zero => exact absurd HA.out (by simp [impl_Shown_bytes.l1])
      | succ k2 =>
       have H := HA.out; clear HA; simp only [impl_Shown_bytes.l1] at H
       by_cases c25 : x51_2 < (l0_2.length : Int)
       ·rw [if_pos c25] at H
        have c25b0 : decide (x51_2 < (l0_2.length : Int)) = true := zX c25; clear c25
        by_cases c26 : 0 ≤ x51_2
        ·rw [if_pos c26] at H
         have c26b0 : decide (0 ≤ x51_2) = true := zX c26; clear c26
         by_cases c27 : x51_2 < (l0_2.length : Int)
         ·rw [if_pos c27] at H
          have c27b0 : decide (x51_2 < (l0_2.length : Int)) = true := zX c27; clear c27
          by_cases c28 : x3_2.size + (rdOf ByteArray.empty l0_2 x51_2).size ≤ 9223372036854775807
          ·rw [if_pos c28] at H
           have c28b0 := eq_true c28; have c28b1 : decide (x3_2.size + (rdOf ByteArray.empty l0_2 x51_2).size ≤ 9223372036854775807) = true := zX c28
           try have c28b2 : (9223372036854775807 < x3_2.size + (rdOf ByteArray.empty l0_2 x51_2).size) = False := eq_false (Nat.not_lt.2 c28)
           have H' := zA H; clear H; have p41 : 0 ≤ (x51_2 : Int) := zW (by assumption); have q41 : x51_2 < (l0_2.length : Int) := zW (by assumption); obtain ⟨ad41, e41, hx41_0⟩ := Kd.at_string HR0_2.out x51_2 p41 q41
           cases e41
           replace hx41_0 := (HB.out.cell (zB w _ hx41_0)).trans hx41_0; replace p41 := eq_true p41; replace q41 := eq_true q41; go_wp2; go_roundg k2
           case measure => have := HK1.out; have := HK2.out; omega
           case rel => exact ⟨(x3_2 ++ (rdOf ByteArray.empty l0_2 x51_2)), (wrap64 (x51_2 + 1)), rfl, rfl, H', ⟨by have := HK1.out; have := HK2.out; omega⟩, ⟨by (with_reducible repeat (first | refine zL ?_ _ | refine zN ?_ | refine zM ?_ _)); exact BK30.out⟩, ⟨HB.out⟩⟩
          ·rw [if_neg c28] at H
           exact absurd H (by simp)
         ·rw [if_neg c27] at H
          exact absurd H (by simp)
        ·rw [if_neg c26] at H
         exact absurd H (by simp)
       ·rw [if_neg c25] at H
        have c25b0 : decide (x51_2 < (l0_2.length : Int)) = false := decide_eq_false c25; clear c25; obtain rfl := yM H; go_wp2; go_ret; exact ⟨by first | rfl | (simp <;> rfl) | (simp [*] <;> rfl), HB.out⟩
    ·rw [if_neg c21] at H
     exact absurd H (by simp)
def impl_Shown_digest.f (k : Nat) (l0_0 : List ByteArray) (l0_1 : List ByteArray) (l0_2 : List ByteArray) (a0_3 : Int) : Option (ByteArray) := (impl_Shown_bytes.f k l0_0 l0_1 l0_2 a0_3).bind fun t10 => ((impl_digest.f k 103 t10).bind fun t11 => (some t11))
theorem impl_Shown_digest.calls (k : Nat) (A0_0 : Option Addr) (c0_0 : Nat) (l0_0 : List ByteArray) (A0_1 : Option Addr) (c0_1 : Nat) (l0_1 : List ByteArray) (A0_2 : Option Addr) (c0_2 : Nat) (l0_2 : List ByteArray) (a0_3 : Int) (r : ByteArray) (w : World) (hr0_0 : Kd.C Kd.string w A0_0 l0_0.length l0_0) (hc0_0 : l0_0.length ≤ c0_0) (hr0_1 : Kd.C Kd.string w A0_1 l0_1.length l0_1) (hc0_1 : l0_1.length ≤ c0_1) (hr0_2 : Kd.C Kd.string w A0_2 l0_2.length l0_2) (hc0_2 : l0_2.length ≤ c0_2) (h : impl_Shown_digest.f k l0_0 l0_1 l0_2 a0_3 = some r) :
  Calls Try.prog 29 #[.agg #[.slice A0_0 l0_0.length c0_0, .slice A0_1 l0_1.length c0_1, .slice A0_2 l0_2.length c0_2, .int .i64 a0_3]] w fun e w' => e = .returned (.string r) ∧ Below w.heap.size w w' := by
 have hu43 := Try.underlying43; have HR0_0 := zA hr0_0; have HC0_0 := zA hc0_0; clear hr0_0 hc0_0; have HR0_1 := zA hr0_1; have HC0_1 := zA hc0_1; clear hr0_1 hc0_1; have HR0_2 := zA hr0_2; have HC0_2 := zA hc0_2; clear hr0_2 hc0_2; have HB := zA (Below.refl w.heap.size w); have H : ((impl_Shown_bytes.f k l0_0 l0_1 l0_2 a0_3).bind fun t10 => ((impl_digest.f k 103 t10).bind fun t11 => (some t11))) = some r := h; clear h; replace H := zAF H; obtain ⟨t10, A20, H⟩ := H; replace H : ((impl_digest.f k 103 t10).bind fun t11 => (some t11)) = some r := H; have A2 := zA A20; clear A20; replace H := zAF H; obtain ⟨t11, A30, H⟩ := H; replace H : (some t11) = some r := H; have A3 := zA A30; clear A30; obtain rfl := yM H; go_enter Try.func29, Try.ntmps29; go_wp2_with (first | ((with_reducible refine gate_dst (N := 1) rfl ?_); refine box_event ?hg (N := 1) ?hd (cs := #[.slice A0_0 l0_0.length c0_0, .slice A0_1 l0_1.length c0_1, .slice A0_2 l0_2.length c0_2, .int .i64 a0_3]) (t := 43) ?hr ?_; (case hd => rfl); (case hg => rfl); (case hr => first | (go_simp; done) | (go_simp; rfl)); intro gb12 hg w4 hbox hb; have n0_ := zA (zAD HB.out hb); have n1_ := zA (hbox); have n2_ := zA ((by rw [hg]; exact (zAE HB.out) : w.heap.size ≤ gb12)); have n3_ := zA ((by rw [hg]; exact (zAE HB.out) : w.heap.size ≤ gb12)); clear HB; have HB := n0_; have BK12 := n1_; have GW12 := n2_; have GE12 := n3_; clear n0_ n1_ n2_ n3_; clear hb hbox hg; have hcz5_0 := yL BK12.out 0 (.slice A0_0 l0_0.length c0_0) rfl; have hcz5_1 := yL BK12.out 1 (.slice A0_1 l0_1.length c0_1) rfl; have hcz5_2 := yL BK12.out 2 (.slice A0_2 l0_2.length c0_2) rfl; have hcz5_3 := yL BK12.out 3 (.int .i64 a0_3) rfl; have hfz5_0 := zO BK12.out 0; have hfz5_1 := zO BK12.out 1; have hfz5_2 := zO BK12.out 2; have hfz5_3 := zO BK12.out 3) | ((with_reducible refine yB (f := 67) rfl ?_); refine goesL_ (some 4) rfl rfl Try.func67 (by kernel_rfl) rfl #[.agg #[.slice A0_0 l0_0.length c0_0, .slice A0_1 l0_1.length c0_1, .slice A0_2 l0_2.length c0_2, .int .i64 a0_3]] rfl (by (try simp only [zAA, zAB, zAC]); first | done | rfl | (simp only [zZ, zY]; rfl)) ?_; (with_reducible refine (impl_Shown_bytes.calls k _ _ l0_0 _ _ l0_1 _ _ l0_2 a0_3 t10 _ ?side1 ?side2 ?side3 ?side4 ?side5 ?side6 A2.out).mono ?_); (case side1 => exact (yN HR0_0.out HB.out)); (case side2 => exact HC0_0.out); (case side3 => exact (yN HR0_1.out HB.out)); (case side4 => exact HC0_1.out); (case side5 => exact (yN HR0_2.out HB.out)); (case side6 => exact HC0_2.out); rintro e w6 ⟨rfl, hb⟩; refine ⟨_, rfl, ?_⟩; have n0_ := zA (yE BK12.out hb); have n1_ := zA (zAD HB.out hb); clear BK12; clear HB; have BK12 := n0_; have HB := n1_; clear n0_ n1_; (try clear hb)) | ((with_reducible refine yB (f := 66) rfl ?_); refine goesL_ (some 5) rfl rfl Try.func66 (by kernel_rfl) rfl #[.int .u8 103, .string t10] rfl (by (try simp only [zAA, zAB, zAC]); first | done | rfl) ?_; (with_reducible refine (impl_digest.calls k 103 t10 t11 _ A3.out).mono ?_); rintro e w7 ⟨rfl, hb⟩; refine ⟨_, rfl, ?_⟩; have n0_ := zA (yE BK12.out hb); have n1_ := zA (zAD HB.out hb); clear BK12; clear HB; have BK12 := n0_; have HB := n1_; clear n0_ n1_; (try clear hb))); go_ret; exact ⟨by first | rfl | (simp <;> rfl) | (simp [*] <;> rfl), HB.out⟩
mutual
def impl_node_shown.l0 : Nat → List (S74) → Int → Int → List ByteArray → List ByteArray → List ByteArray → Int → Option (List ByteArray × List ByteArray × List ByteArray × Int)
 | 0, _, _, _, _, _, _, _ => none
 | k + 1, x20, x21, x22, x10, x11, x12, x13 => if x22 < x21 then (if 0 ≤ x22 then (if x22 < (x20.length : Int) then ((impl_node_shown.f k (rd_N74 x20 x22)).bind fun bt14 => ((impl_Shown_digest.f k bt14.1 bt14.2.1 bt14.2.2.1 bt14.2.2.2).bind fun t15 => (if x12.length < 8796093022208 then (impl_node_shown.l0 k x20 x21 (wrap64 (x22 + 1)) x10 x11 (x12 ++ [t15]) x13) else (none)))) else (none)) else (none)) else (some (x10, x11, x12, x13))
def impl_node_shown.f : Nat → S74 → Option (List ByteArray × List ByteArray × List ByteArray × Int)
 | 0, _ => none
 | k + 1, a0 => (slices_Clone_string_string.f a0.f0).bind fun t16 => ((slices_Clone_string_string.f a0.f1).bind fun t17 => (impl_node_shown.l0 k a0.f2 (a0.f2.length : Int) 0 t16 t17 ([] : List ByteArray) 0))
end
def impl_node_shown.T1 : Bool × List (List Nat × List Nat) := (true, [([], []), ([0], [0]), ([1], [1]), ([2], [2]), ([3], [3]), ([], []), ([5], [5]), ([6], [6]), ([7], [7]), ([8, 4], [8]), ([4, 9], [4, 9]), ([], []), ([11, 10, 9, 0, 1, 2, 3, 4, 5, 6, 7, 8, 9, 10, 11], [10, 11])])
def impl_node_shown.B1 : List Nat := [0, 1, 3, 7, 15, 0, 32, 96, 224, 511, 1023, 0, 4095]
theorem impl_node_shown.tab1 : rtab .any (opsOf Try.f28 1) = impl_node_shown.T1 := by kernel_rfl
theorem impl_node_shown.bits1 : waitsOk impl_node_shown.T1.2 impl_node_shown.B1 = true := by kernel_rfl
def impl_node_shown.T5 : Bool × List (List Nat × List Nat) := (true, [([], []), ([0], [0]), ([], []), ([2], [2]), ([3, 3], [3]), ([4], [4]), ([1, 5, 4], [1, 5]), ([0, 1, 2, 3, 4, 5, 6], []), ([7, 6, 6, 0, 1, 2, 3, 4, 5, 6], [6, 7])])
def impl_node_shown.B5 : List Nat := [0, 1, 0, 4, 12, 28, 63, 127, 255]
theorem impl_node_shown.tab5 : rtab .any (opsOf Try.f28 5) = impl_node_shown.T5 := by kernel_rfl
theorem impl_node_shown.bits5 : waitsOk impl_node_shown.T5.2 impl_node_shown.B5 = true := by kernel_rfl
theorem impl_node_shown.calls (k : Nat) : ∀ (a0 : S74) (r1 : List ByteArray) (r2 : List ByteArray) (r3 : List ByteArray) (r4 : Int) (w : World) (hr0 : k74p.K w a0 [.pointer (some ⟨a0.adr, 0, none⟩)]) (h : impl_node_shown.f k a0 = some (r1, r2, r3, r4)),
  Calls Try.prog 28 #[.pointer (some ⟨a0.adr, 0, none⟩)] w fun e w' => ∃ v0_ v1_ v2_ : Value, e = .returned (.agg #[v0_, v1_, v2_, .int .i64 r4]) ∧ Kd.R Kd.string 9 w' w.heap.size (fun k_ => some k_ ≠ (v1_ : Value).ownBlock ∧ some k_ ≠ (v2_ : Value).ownBlock) v0_ r1 ∧ Kd.R Kd.string 9 w' w.heap.size (fun k_ => some k_ ≠ (v0_ : Value).ownBlock ∧ some k_ ≠ (v2_ : Value).ownBlock) v1_ r2 ∧ Kd.R Kd.string 9 w' w.heap.size (fun k_ => some k_ ≠ (v0_ : Value).ownBlock ∧ some k_ ≠ (v1_ : Value).ownBlock) v2_ r3 ∧ Below w.heap.size w w' := by
 induction k using Nat.strongRecOn with
 | _ k ih =>
 intro a0 r1 r2 r3 r4 w hr0 h
 cases k with
 | zero => exact absurd h (by simp [impl_node_shown.f])
 | succ k =>
 simp only [impl_node_shown.f] at h; have hu43 := Try.underlying43; have hu74 := Try.underlying74; have hu60 := Try.underlying60; have HR0 := zA hr0; clear hr0; obtain ⟨An0_0, cn0_0, An0_1, cn0_1, An0_2, cn0_2, hsn0_0, hsn0_1, hsn0_2, hln0_0, hin0_0, hln0_1, hin0_1, hln0_2, hin0_2⟩ := at_P74 HR0.out; have HXn0_0 := zA hsn0_0; have HRn0_0 := zA hin0_0; have HCn0_0 := zA hln0_0; have HXn0_1 := zA hsn0_1; have HRn0_1 := zA hin0_1; have HCn0_1 := zA hln0_1; have HXn0_2 := zA hsn0_2; have HRn0_2 := zA hin0_2; have HCn0_2 := zA hln0_2; clear hsn0_0 hin0_0 hln0_0 hsn0_1 hin0_1 hln0_1 hsn0_2 hin0_2 hln0_2; have HB := zA (Below.refl w.heap.size w); have H : ((slices_Clone_string_string.f a0.f0).bind fun t37 => ((slices_Clone_string_string.f a0.f1).bind fun t38 => (impl_node_shown.l0 k a0.f2 (a0.f2.length : Int) 0 t37 t38 ([] : List ByteArray) 0))) = some (r1, r2, r3, r4) := h; clear h; replace H := zAF H; obtain ⟨t37, A20, H⟩ := H; replace H : ((slices_Clone_string_string.f a0.f1).bind fun t38 => (impl_node_shown.l0 k a0.f2 (a0.f2.length : Int) 0 t37 t38 ([] : List ByteArray) 0)) = some (r1, r2, r3, r4) := H; have A2 := zA A20; clear A20; replace H := zAF H; obtain ⟨t38, A30, H⟩ := H; replace H : (impl_node_shown.l0 k a0.f2 (a0.f2.length : Int) 0 t37 t38 ([] : List ByteArray) 0) = some (r1, r2, r3, r4) := H; have A3 := zA A30; clear A30; have H' := zA H; clear H; go_enter Try.func28, Try.ntmps28
 try go_wp2_with (first | ((with_reducible refine gate_dst (N := 2) rfl ?_); refine box_event ?hg (N := 2) ?hd (cs := #[.slice none 0 0, .slice none 0 0, .slice none 0 0, .int .i64 0]) (t := 43) ?hr ?_; (case hd => rfl); (case hg => rfl); (case hr => first | (go_simp; done) | (go_simp; rfl)); intro gb39 hg w4 hbox hb; have n0_ := zA (zAD HB.out hb); have n1_ := zA (hbox); have n2_ := zA ((by rw [hg]; exact (zAE HB.out) : w.heap.size ≤ gb39)); have n3_ := zA ((by rw [hg]; exact (zAE HB.out) : w.heap.size ≤ gb39)); clear HB; have HB := n0_; have BK39 := n1_; have GW39 := n2_; have GE39 := n3_; clear n0_ n1_ n2_ n3_; clear hb hbox hg))
 have n0_ := zA (zN BK39.out); have n1_ := zA (zG HB.out); clear BK39 HB; have BK39 := n0_; have HB := n1_; clear n0_ n1_; have hx40_0 := HXn0_0.out; have hw40_0 := hx40_0; (try rw [show ((0 : Int)).toNat = 0 from rfl] at hw40_0); (try rw [show 0 * 3 = 0 from rfl] at hw40_0); (try rw [Addr.add_zero'] at hw40_0); have hx40_1 := HXn0_1.out; have hw40_1 := hx40_1; (try rw [show ((0 : Int)).toNat = 0 from rfl] at hw40_1); (try rw [show 0 * 3 = 0 from rfl] at hw40_1); (try rw [Addr.add_zero'] at hw40_1); have hx40_2 := HXn0_2.out; have hw40_2 := hx40_2; (try rw [show ((0 : Int)).toNat = 0 from rfl] at hw40_2); (try rw [show 0 * 3 = 0 from rfl] at hw40_2); (try rw [Addr.add_zero'] at hw40_2); replace hx40_0 := (HB.out.cell (zB w _ hx40_0)).trans hx40_0; replace hx40_1 := (HB.out.cell (zB w _ hx40_1)).trans hx40_1; replace hx40_2 := (HB.out.cell (zB w _ hx40_2)).trans hx40_2; have hx41_0 := HXn0_0.out; have hw41_0 := hx41_0; (try rw [show ((0 : Int)).toNat = 0 from rfl] at hw41_0); (try rw [show 0 * 3 = 0 from rfl] at hw41_0); (try rw [Addr.add_zero'] at hw41_0); have hx41_1 := HXn0_1.out; have hw41_1 := hx41_1; (try rw [show ((0 : Int)).toNat = 0 from rfl] at hw41_1); (try rw [show 0 * 3 = 0 from rfl] at hw41_1); (try rw [Addr.add_zero'] at hw41_1); have hx41_2 := HXn0_2.out; have hw41_2 := hx41_2; (try rw [show ((0 : Int)).toNat = 0 from rfl] at hw41_2); (try rw [show 0 * 3 = 0 from rfl] at hw41_2); (try rw [Addr.add_zero'] at hw41_2); replace hx41_0 := (HB.out.cell (zB w _ hx41_0)).trans hx41_0; replace hx41_1 := (HB.out.cell (zB w _ hx41_1)).trans hx41_1; replace hx41_2 := (HB.out.cell (zB w _ hx41_2)).trans hx41_2; refine start_ (n := 13) (S := fun w' => w'.cell? ⟨a0.adr, 0, none⟩ = some (.slice An0_0 a0.f0.length cn0_0) ∧ w'.cell? ⟨a0.adr, 1, none⟩ = some (.slice An0_1 a0.f1.length cn0_1) ∧ w'.cell? ⟨a0.adr, 2, none⟩ = some (.slice An0_2 a0.f2.length cn0_2) ∧ w'.cell? ⟨a0.adr, 0, none⟩ = some (.slice An0_0 a0.f0.length cn0_0) ∧ w'.cell? ⟨a0.adr, 1, none⟩ = some (.slice An0_1 a0.f1.length cn0_1) ∧ w'.cell? ⟨a0.adr, 2, none⟩ = some (.slice An0_2 a0.f2.length cn0_2)) (ds := []) (bA 13 0) (by kernel_rfl) rfl rfl ⟨((HB.out.cell (zB w _ hw40_0)).trans hw40_0), ((HB.out.cell (zB w _ hw40_1)).trans hw40_1), ((HB.out.cell (zB w _ hw40_2)).trans hw40_2), ((HB.out.cell (zB w _ hw41_0)).trans hw41_0), ((HB.out.cell (zB w _ hw41_1)).trans hw41_1), ((HB.out.cell (zB w _ hw41_2)).trans hw41_2)⟩ (fun hHeld => ?_); refine with_tabW impl_node_shown.tab1 impl_node_shown.bits1 (fun HT_ HW_ => ?_); generalize w4.drew = w5 at BK39 HB hx40_0 hx40_1 hx40_2 hx41_0 hx41_1 hx41_2 hHeld ⊢; refine wzP 0 6 (bA 13 1) HT_ ?_
 refine wzP 1 7 (bA 13 3) HT_ ?_
 refine wzP 2 8 (bA 13 7) HT_ ?_
 refine wzP 5 11 (bA 13 39) HT_ ?_
 refine wzP 6 12 (bA 13 103) HT_ ?_
 refine wzP 7 13 (bA 13 231) HT_ ?_
 refine wzT 3 9 (bA 13 239) HT_ HW_ hHeld ?_
 refine wzT 8 14 (bA 13 495) HT_ HW_ hHeld ?_
 refine join_ (σ := Value × Value × Nat) 1 (bA 13 4095) (fun s_ => [(10, s_.1), (15, s_.2.1), (3, .pointer (some ⟨s_.2.2, 0, none⟩)), (16, .agg #[s_.1, s_.2.1, .slice none 0 0, .int .i64 0])]) (fun s_ w' => (w'.cell? ⟨a0.adr, 0, none⟩ = some (.slice An0_0 a0.f0.length cn0_0) ∧ w'.cell? ⟨a0.adr, 1, none⟩ = some (.slice An0_1 a0.f1.length cn0_1) ∧ w'.cell? ⟨a0.adr, 2, none⟩ = some (.slice An0_2 a0.f2.length cn0_2) ∧ w'.cell? ⟨a0.adr, 0, none⟩ = some (.slice An0_0 a0.f0.length cn0_0) ∧ w'.cell? ⟨a0.adr, 1, none⟩ = some (.slice An0_1 a0.f1.length cn0_1) ∧ w'.cell? ⟨a0.adr, 2, none⟩ = some (.slice An0_2 a0.f2.length cn0_2)) ∧ (Kd.R Kd.string 9 w' w.heap.size (fun k_ => some k_ ≠ (s_.2.1 : Value).ownBlock) s_.1 t37) ∧ (Kd.R Kd.string 9 w' w.heap.size (fun k_ => some k_ ≠ (s_.1 : Value).ownBlock) s_.2.1 t38) ∧ (w'.heap[gb39]? = some (.cells #[.slice none 0 0, .slice none 0 0, .slice none 0 0, .int .i64 0] 43 (0, 0))) ∧ (w'.heap[s_.2.2]? = some (.cells #[.slice none 0 0, .slice none 0 0, .slice none 0 0, .int .i64 0] 43 (0, 0))) ∧ (w.heap.size ≤ s_.2.2) ∧ (w.heap.size ≤ s_.2.2) ∧ (gb39 ≠ s_.2.2) ∧ (s_.2.2 ≠ gb39) ∧ (Below w.heap.size w w')) ?_ ?_; rotate_left
 ·intro hCont
  refine two_ (i := 4) (j := 11) (Ni := some 10) (Nj := some 3) (bA 13 511) (bA 13 2543) rfl rfl rfl rfl (two_of HT_.out (by kernel_rfl)) (by decide) (by decide) (fun K hK => ?_) (fun K hK => ?_)
  ·skip
   refine goes_ Try.func65 (by kernel_rfl) rfl #[.slice An0_0 a0.f0.length cn0_0] (by rfl) rfl rfl (by (try simp only [zAA, zAB, zAC]); first | done | rfl | (simp only [zZ, zY]; rfl)) ?_
   with_reducible refine (slices_Clone_string_string.calls _ _ a0.f0 t37 _ ?side1 ?side2 A2.out).mono ?_
   (case side1 => exact (yN HRn0_0.out HB.out)); (case side2 => exact HCn0_0.out); rintro e w6 ⟨v42, rfl, ho0, hb⟩; refine ⟨_, rfl, ?_⟩; have n0_ := zA (Kd.R_lower ho0 (zAE HB.out)); have n1_ := zA (yE BK39.out hb); have n2_ := zA (zAD HB.out hb); clear BK39 HB; have HO44 := n0_; have BK39 := n1_; have HB := n2_; clear n0_ n1_ n2_; (try clear hb); (try clear ho0); refine hK.out _ _ ⟨((HB.out.cell (zB w _ hw40_0)).trans hw40_0), ((HB.out.cell (zB w _ hw40_1)).trans hw40_1), ((HB.out.cell (zB w _ hw40_2)).trans hw40_2), ((HB.out.cell (zB w _ hw41_0)).trans hw41_0), ((HB.out.cell (zB w _ hw41_1)).trans hw41_1), ((HB.out.cell (zB w _ hw41_2)).trans hw41_2)⟩ (fun hHeld => ?_); clear hK K; refine wzN 10 ?_
   refine two_ (i := 9) (j := 11) (Ni := some 15) (Nj := some 3) (bA 13 1023) (bA 13 2559) rfl rfl rfl rfl (two_of HT_.out (by kernel_rfl)) (by decide) (by decide) (fun K hK => ?_) (fun K hK => ?_)
   ·skip
    refine goes_ Try.func65 (by kernel_rfl) rfl #[.slice An0_1 a0.f1.length cn0_1] (by rfl) rfl rfl (by (try simp only [zAA, zAB, zAC]); first | done | rfl | (simp only [zZ, zY]; rfl)) ?_
    with_reducible refine (slices_Clone_string_string.calls _ _ a0.f1 t38 _ ?side1 ?side2 A3.out).mono ?_
    (case side1 => exact (yN HRn0_1.out HB.out)); (case side2 => exact HCn0_1.out); rintro e w7 ⟨v45, rfl, ho0, hb⟩; refine ⟨_, rfl, ?_⟩; have n0_ := zA (yJ HO44.out (Kd.R_base ho0) hb); have n1_ := zA (Kd.R_lower (yK ho0 (Kd.R_lt HO44.out)) (zAE HB.out)); have n2_ := zA (yE BK39.out hb); have n3_ := zA (zAD HB.out hb); clear HO44 BK39 HB; have HO44 := n0_; have HO46 := n1_; have BK39 := n2_; have HB := n3_; clear n0_ n1_ n2_ n3_; (try clear hb); (try clear ho0); obtain ⟨Ao8, co8, eo8⟩ := Kd.R_slice HO46.out; (first | subst eo8 | (injection eo8 with f1_ f2_ f3_; have f4_ := f1_.symm; have f5_ := f3_.symm; clear f1_ f2_ f3_; subst f4_; subst f5_)); obtain ⟨Ao9, co9, eo9⟩ := Kd.R_slice HO44.out; (first | subst eo9 | (injection eo9 with f1_ f2_ f3_; have f4_ := f1_.symm; have f5_ := f3_.symm; clear f1_ f2_ f3_; subst f4_; subst f5_)); refine hK.out _ _ ⟨((HB.out.cell (zB w _ hw40_0)).trans hw40_0), ((HB.out.cell (zB w _ hw40_1)).trans hw40_1), ((HB.out.cell (zB w _ hw40_2)).trans hw40_2), ((HB.out.cell (zB w _ hw41_0)).trans hw41_0), ((HB.out.cell (zB w _ hw41_1)).trans hw41_1), ((HB.out.cell (zB w _ hw41_2)).trans hw41_2)⟩ (fun hHeld => ?_); clear hK K; refine wzN 15 ?_
    refine wzP 10 16 (bA 13 2047) HT_ ?_
    refine one_ (i := 11) (N := some 3) (bA 13 4095) rfl rfl (one_of HT_.out (by kernel_rfl)) (by decide) (fun K hK => ?_); refine box_step ?hg (N := 3) ?hd (cs := #[.slice none 0 0, .slice none 0 0, .slice none 0 0, .int .i64 0]) (t := 43) ?hr ?_; (case hd => rfl); (case hg => rfl); (case hr => first | (go_simp; done) | (go_simp; rfl)); intro gb47 hg w10 hbox hb; have n0_ := zA (Kd.R_below HO44.out hb); have n1_ := zA (Kd.R_below HO46.out hb); have n2_ := zA (yE BK39.out hb); have n3_ := zA (zAD HB.out hb); have n4_ := zA (hbox); have n5_ := zA ((by rw [hg]; exact (zAE HB.out) : w.heap.size ≤ gb47)); have n6_ := zA ((by rw [hg]; exact (zAE HB.out) : w.heap.size ≤ gb47)); have n7_ := zA ((by rw [hg]; exact zK (blk_lt BK39.out) : gb39 ≠ gb47)); have n8_ := zA ((by rw [hg]; exact Nat.ne_of_gt (blk_lt BK39.out) : gb47 ≠ gb39)); clear HO44 HO46 BK39 HB; have HO44 := n0_; have HO46 := n1_; have BK39 := n2_; have HB := n3_; have BK47 := n4_; have GW47 := n5_; have GE47 := n6_; have NB39_47 := n7_; have NB47_39 := n8_; clear n0_ n1_ n2_ n3_ n4_ n5_ n6_ n7_ n8_ hb hbox hg; refine hK.out _ _ ⟨((HB.out.cell (zB w _ hw40_0)).trans hw40_0), ((HB.out.cell (zB w _ hw40_1)).trans hw40_1), ((HB.out.cell (zB w _ hw40_2)).trans hw40_2), ((HB.out.cell (zB w _ hw41_0)).trans hw41_0), ((HB.out.cell (zB w _ hw41_1)).trans hw41_1), ((HB.out.cell (zB w _ hw41_2)).trans hw41_2)⟩ (fun hHeld => ?_); clear hK K; refine wzN 3 ?_
    exact norm_ (by simp only [putAll, Act.put, zC, zD, zE]) (hCont (.slice Ao9 t37.length co9, .slice Ao8 t38.length co8, gb47) _ ⟨hHeld, (by (with_reducible repeat first | apply zQ | apply zR | apply zS); exact yC HO44.out (fun _ hk => hk.2)), (by (with_reducible repeat first | apply zQ | apply zR | apply zS); exact yC HO46.out (fun _ hk => hk.2)), BK39.out, BK47.out, GW47.out, GE47.out, NB39_47.out, NB47_39.out, HB.out⟩)
   ·skip
    refine box_step ?hg (N := 3) ?hd (cs := #[.slice none 0 0, .slice none 0 0, .slice none 0 0, .int .i64 0]) (t := 43) ?hr ?_; (case hd => rfl); (case hg => rfl); (case hr => first | (go_simp; done) | (go_simp; rfl)); intro gb47 hg w7 hbox hb; have n0_ := zA (Kd.R_below HO44.out hb); have n1_ := zA (yE BK39.out hb); have n2_ := zA (zAD HB.out hb); have n3_ := zA (hbox); have n4_ := zA ((by rw [hg]; exact (zAE HB.out) : w.heap.size ≤ gb47)); have n5_ := zA ((by rw [hg]; exact (zAE HB.out) : w.heap.size ≤ gb47)); have n6_ := zA ((by rw [hg]; exact zK (blk_lt BK39.out) : gb39 ≠ gb47)); have n7_ := zA ((by rw [hg]; exact Nat.ne_of_gt (blk_lt BK39.out) : gb47 ≠ gb39)); clear HO44 BK39 HB; have HO44 := n0_; have BK39 := n1_; have HB := n2_; have BK47 := n3_; have GW47 := n4_; have GE47 := n5_; have NB39_47 := n6_; have NB47_39 := n7_; clear n0_ n1_ n2_ n3_ n4_ n5_ n6_ n7_ hb hbox hg; refine hK.out _ _ ⟨((HB.out.cell (zB w _ hw40_0)).trans hw40_0), ((HB.out.cell (zB w _ hw40_1)).trans hw40_1), ((HB.out.cell (zB w _ hw40_2)).trans hw40_2), ((HB.out.cell (zB w _ hw41_0)).trans hw41_0), ((HB.out.cell (zB w _ hw41_1)).trans hw41_1), ((HB.out.cell (zB w _ hw41_2)).trans hw41_2)⟩ (fun hHeld => ?_); clear hK K; refine wzN 3 ?_
    refine one_ (i := 9) (N := some 15) (bA 13 3071) rfl rfl (one_of HT_.out (by kernel_rfl)) (by decide) (fun K hK => ?_); refine goes_ Try.func65 (by kernel_rfl) rfl #[.slice An0_1 a0.f1.length cn0_1] (by rfl) rfl rfl (by (try simp only [zAA, zAB, zAC]); first | done | rfl | (simp only [zZ, zY]; rfl)) ?_
    with_reducible refine (slices_Clone_string_string.calls _ _ a0.f1 t38 _ ?side1 ?side2 A3.out).mono ?_
    (case side1 => exact (yN HRn0_1.out HB.out)); (case side2 => exact HCn0_1.out); rintro e w8 ⟨v45, rfl, ho0, hb⟩; refine ⟨_, rfl, ?_⟩; have n0_ := zA (yJ HO44.out (Kd.R_base ho0) hb); have n1_ := zA (Kd.R_lower (yK ho0 (Kd.R_lt HO44.out)) (zAE HB.out)); have n2_ := zA (yE BK39.out hb); have n3_ := zA (yE BK47.out hb); have n4_ := zA (zAD HB.out hb); clear HO44 BK39 BK47 HB; have HO44 := n0_; have HO46 := n1_; have BK39 := n2_; have BK47 := n3_; have HB := n4_; clear n0_ n1_ n2_ n3_ n4_; (try clear hb); (try clear ho0); obtain ⟨Ao9, co9, eo9⟩ := Kd.R_slice HO46.out; (first | subst eo9 | (injection eo9 with f1_ f2_ f3_; have f4_ := f1_.symm; have f5_ := f3_.symm; clear f1_ f2_ f3_; subst f4_; subst f5_)); obtain ⟨Ao10, co10, eo10⟩ := Kd.R_slice HO44.out; (first | subst eo10 | (injection eo10 with f1_ f2_ f3_; have f4_ := f1_.symm; have f5_ := f3_.symm; clear f1_ f2_ f3_; subst f4_; subst f5_)); refine hK.out _ _ ⟨((HB.out.cell (zB w _ hw40_0)).trans hw40_0), ((HB.out.cell (zB w _ hw40_1)).trans hw40_1), ((HB.out.cell (zB w _ hw40_2)).trans hw40_2), ((HB.out.cell (zB w _ hw41_0)).trans hw41_0), ((HB.out.cell (zB w _ hw41_1)).trans hw41_1), ((HB.out.cell (zB w _ hw41_2)).trans hw41_2)⟩ (fun hHeld => ?_); clear hK K; refine wzN 15 ?_
    refine wzP 10 16 (bA 13 4095) HT_ ?_
    exact norm_ (by simp only [putAll, Act.put, zC, zD, zE]) (hCont (.slice Ao10 t37.length co10, .slice Ao9 t38.length co9, gb47) _ ⟨hHeld, (by (with_reducible repeat first | apply zQ | apply zR | apply zS); exact yC HO44.out (fun _ hk => hk.2)), (by (with_reducible repeat first | apply zQ | apply zR | apply zS); exact yC HO46.out (fun _ hk => hk.2)), BK39.out, BK47.out, GW47.out, GE47.out, NB39_47.out, NB47_39.out, HB.out⟩)
  ·skip
   refine box_step ?hg (N := 3) ?hd (cs := #[.slice none 0 0, .slice none 0 0, .slice none 0 0, .int .i64 0]) (t := 43) ?hr ?_; (case hd => rfl); (case hg => rfl); (case hr => first | (go_simp; done) | (go_simp; rfl)); intro gb47 hg w6 hbox hb; have n0_ := zA (yE BK39.out hb); have n1_ := zA (zAD HB.out hb); have n2_ := zA (hbox); have n3_ := zA ((by rw [hg]; exact (zAE HB.out) : w.heap.size ≤ gb47)); have n4_ := zA ((by rw [hg]; exact (zAE HB.out) : w.heap.size ≤ gb47)); have n5_ := zA ((by rw [hg]; exact zK (blk_lt BK39.out) : gb39 ≠ gb47)); have n6_ := zA ((by rw [hg]; exact Nat.ne_of_gt (blk_lt BK39.out) : gb47 ≠ gb39)); clear BK39 HB; have BK39 := n0_; have HB := n1_; have BK47 := n2_; have GW47 := n3_; have GE47 := n4_; have NB39_47 := n5_; have NB47_39 := n6_; clear n0_ n1_ n2_ n3_ n4_ n5_ n6_ hb hbox hg; refine hK.out _ _ ⟨((HB.out.cell (zB w _ hw40_0)).trans hw40_0), ((HB.out.cell (zB w _ hw40_1)).trans hw40_1), ((HB.out.cell (zB w _ hw40_2)).trans hw40_2), ((HB.out.cell (zB w _ hw41_0)).trans hw41_0), ((HB.out.cell (zB w _ hw41_1)).trans hw41_1), ((HB.out.cell (zB w _ hw41_2)).trans hw41_2)⟩ (fun hHeld => ?_); clear hK K; refine wzN 3 ?_
   refine one_ (i := 4) (N := some 10) (bA 13 2559) rfl rfl (one_of HT_.out (by kernel_rfl)) (by decide) (fun K hK => ?_); refine goes_ Try.func65 (by kernel_rfl) rfl #[.slice An0_0 a0.f0.length cn0_0] (by rfl) rfl rfl (by (try simp only [zAA, zAB, zAC]); first | done | rfl | (simp only [zZ, zY]; rfl)) ?_
   with_reducible refine (slices_Clone_string_string.calls _ _ a0.f0 t37 _ ?side1 ?side2 A2.out).mono ?_
   (case side1 => exact (yN HRn0_0.out HB.out)); (case side2 => exact HCn0_0.out); rintro e w7 ⟨v42, rfl, ho0, hb⟩; refine ⟨_, rfl, ?_⟩; have n0_ := zA (Kd.R_lower ho0 (zAE HB.out)); have n1_ := zA (yE BK39.out hb); have n2_ := zA (yE BK47.out hb); have n3_ := zA (zAD HB.out hb); clear BK39 BK47 HB; have HO44 := n0_; have BK39 := n1_; have BK47 := n2_; have HB := n3_; clear n0_ n1_ n2_ n3_; (try clear hb); (try clear ho0); refine hK.out _ _ ⟨((HB.out.cell (zB w _ hw40_0)).trans hw40_0), ((HB.out.cell (zB w _ hw40_1)).trans hw40_1), ((HB.out.cell (zB w _ hw40_2)).trans hw40_2), ((HB.out.cell (zB w _ hw41_0)).trans hw41_0), ((HB.out.cell (zB w _ hw41_1)).trans hw41_1), ((HB.out.cell (zB w _ hw41_2)).trans hw41_2)⟩ (fun hHeld => ?_); clear hK K; refine wzN 10 ?_
   refine one_ (i := 9) (N := some 15) (bA 13 3071) rfl rfl (one_of HT_.out (by kernel_rfl)) (by decide) (fun K hK => ?_); refine goes_ Try.func65 (by kernel_rfl) rfl #[.slice An0_1 a0.f1.length cn0_1] (by rfl) rfl rfl (by (try simp only [zAA, zAB, zAC]); first | done | rfl | (simp only [zZ, zY]; rfl)) ?_
   with_reducible refine (slices_Clone_string_string.calls _ _ a0.f1 t38 _ ?side1 ?side2 A3.out).mono ?_
   (case side1 => exact (yN HRn0_1.out HB.out)); (case side2 => exact HCn0_1.out); rintro e w8 ⟨v45, rfl, ho0, hb⟩; refine ⟨_, rfl, ?_⟩; have n0_ := zA (yJ HO44.out (Kd.R_base ho0) hb); have n1_ := zA (Kd.R_lower (yK ho0 (Kd.R_lt HO44.out)) (zAE HB.out)); have n2_ := zA (yE BK39.out hb); have n3_ := zA (yE BK47.out hb); have n4_ := zA (zAD HB.out hb); clear HO44 BK39 BK47 HB; have HO44 := n0_; have HO46 := n1_; have BK39 := n2_; have BK47 := n3_; have HB := n4_; clear n0_ n1_ n2_ n3_ n4_; (try clear hb); (try clear ho0); obtain ⟨Ao9, co9, eo9⟩ := Kd.R_slice HO46.out; (first | subst eo9 | (injection eo9 with f1_ f2_ f3_; have f4_ := f1_.symm; have f5_ := f3_.symm; clear f1_ f2_ f3_; subst f4_; subst f5_)); obtain ⟨Ao10, co10, eo10⟩ := Kd.R_slice HO44.out; (first | subst eo10 | (injection eo10 with f1_ f2_ f3_; have f4_ := f1_.symm; have f5_ := f3_.symm; clear f1_ f2_ f3_; subst f4_; subst f5_)); refine hK.out _ _ ⟨((HB.out.cell (zB w _ hw40_0)).trans hw40_0), ((HB.out.cell (zB w _ hw40_1)).trans hw40_1), ((HB.out.cell (zB w _ hw40_2)).trans hw40_2), ((HB.out.cell (zB w _ hw41_0)).trans hw41_0), ((HB.out.cell (zB w _ hw41_1)).trans hw41_1), ((HB.out.cell (zB w _ hw41_2)).trans hw41_2)⟩ (fun hHeld => ?_); clear hK K; refine wzN 15 ?_
   refine wzP 10 16 (bA 13 4095) HT_ ?_
   exact norm_ (by simp only [putAll, Act.put, zC, zD, zE]) (hCont (.slice Ao10 t37.length co10, .slice Ao9 t38.length co9, gb47) _ ⟨hHeld, (by (with_reducible repeat first | apply zQ | apply zR | apply zS); exact yC HO44.out (fun _ hk => hk.2)), (by (with_reducible repeat first | apply zQ | apply zR | apply zS); exact yC HO46.out (fun _ hk => hk.2)), BK39.out, BK47.out, GW47.out, GE47.out, NB39_47.out, NB47_39.out, HB.out⟩)
 rintro ⟨v42, v45, gb47⟩ w11 ⟨hS_, h0_, h1_, h2_, h3_, h4_, h5_, h6_, h7_, h8_⟩; have n0_ : Aside0 (Kd.R Kd.string 9 w11 w.heap.size (fun k_ => some k_ ≠ (v45 : Value).ownBlock) v42 t37) := ⟨h0_⟩; have n1_ : Aside0 (Kd.R Kd.string 9 w11 w.heap.size (fun k_ => some k_ ≠ (v42 : Value).ownBlock) v45 t38) := ⟨h1_⟩; have n2_ : Aside0 (w11.heap[gb39]? = some (.cells #[.slice none 0 0, .slice none 0 0, .slice none 0 0, .int .i64 0] 43 (0, 0))) := ⟨h2_⟩; have n3_ : Aside0 (w11.heap[gb47]? = some (.cells #[.slice none 0 0, .slice none 0 0, .slice none 0 0, .int .i64 0] 43 (0, 0))) := ⟨h3_⟩; have n4_ : Aside0 (w.heap.size ≤ gb47) := ⟨h4_⟩; have n5_ : Aside0 (w.heap.size ≤ gb47) := ⟨h5_⟩; have n6_ : Aside0 (gb39 ≠ gb47) := ⟨h6_⟩; have n7_ : Aside0 (gb47 ≠ gb39) := ⟨h7_⟩; have n8_ : Aside0 (Below w.heap.size w w11) := ⟨h8_⟩; clear BK39 HB h0_ h1_ h2_ h3_ h4_ h5_ h6_ h7_ h8_; have HO44 := n0_; have HO46 := n1_; have BK39 := n2_; have BK47 := n3_; have GW47 := n4_; have GE47 := n5_; have NB39_47 := n6_; have NB47_39 := n7_; have HB := n8_; clear n0_ n1_ n2_ n3_ n4_ n5_ n6_ n7_ n8_; have hHeld : w11.cell? ⟨a0.adr, 0, none⟩ = some (.slice An0_0 a0.f0.length cn0_0) ∧ w11.cell? ⟨a0.adr, 1, none⟩ = some (.slice An0_1 a0.f1.length cn0_1) ∧ w11.cell? ⟨a0.adr, 2, none⟩ = some (.slice An0_2 a0.f2.length cn0_2) ∧ w11.cell? ⟨a0.adr, 0, none⟩ = some (.slice An0_0 a0.f0.length cn0_0) ∧ w11.cell? ⟨a0.adr, 1, none⟩ = some (.slice An0_1 a0.f1.length cn0_1) ∧ w11.cell? ⟨a0.adr, 2, none⟩ = some (.slice An0_2 a0.f2.length cn0_2) := hS_; obtain ⟨Ao12, co12, eo12⟩ := Kd.R_slice HO46.out; (first | subst eo12 | (injection eo12 with f1_ f2_ f3_; have f4_ := f1_.symm; have f5_ := f3_.symm; clear f1_ f2_ f3_; subst f4_; subst f5_)); obtain ⟨Ao13, co13, eo13⟩ := Kd.R_slice HO44.out; (first | subst eo13 | (injection eo13 with f1_ f2_ f3_; have f4_ := f1_.symm; have f5_ := f3_.symm; clear f1_ f2_ f3_; subst f4_; subst f5_)); refine norm_ (a' := ?_) ?_ ?_; rotate_left
 ·simp only [putAll, Act.put, zC, zD, zE]
  rfl
 refine one_ (i := 12) (N := none) (bA 13 8191) rfl rfl (one_of HT_.out (by kernel_rfl)) (by decide) (fun K hK => ?_); have hs14 : w11.cell? ⟨gb47, 0, none⟩ = some (.slice none 0 0) := (zP BK47.out 0).trans rfl; have hfs14 := zO BK47.out 0; have hns14_0 := NB39_47.out; have hms14_0 := NB47_39.out; have hs15 : w11.cell? ⟨gb47, 1, none⟩ = some (.slice none 0 0) := (zP BK47.out 1).trans rfl; have hfs15 := zO BK47.out 1; have hns15_0 := NB39_47.out; have hms15_0 := NB47_39.out; have hs16 : w11.cell? ⟨gb47, 2, none⟩ = some (.slice none 0 0) := (zP BK47.out 2).trans rfl; have hfs16 := zO BK47.out 2; have hns16_0 := NB39_47.out; have hms16_0 := NB47_39.out; have hs17 : w11.cell? ⟨gb47, 3, none⟩ = some (.int .i64 0) := (zP BK47.out 3).trans rfl; have hfs17 := zO BK47.out 3; have hns17_0 := NB39_47.out; have hms17_0 := NB47_39.out; refine skip_ (w1 := ?_) (by rfl) rfl ?_ ?_; rotate_left
 ·go_simp
  rfl
 refine hK.out _ _ ⟨(wzC hw40_0 GW47.out ((wzC hw40_0 GW47.out ((wzC hw40_0 GW47.out ((wzC hw40_0 GW47.out (hHeld.1)))))))), (wzC hw40_1 GW47.out ((wzC hw40_1 GW47.out ((wzC hw40_1 GW47.out ((wzC hw40_1 GW47.out (hHeld.2.1)))))))), (wzC hw40_2 GW47.out ((wzC hw40_2 GW47.out ((wzC hw40_2 GW47.out ((wzC hw40_2 GW47.out (hHeld.2.2.1)))))))), (wzC hw41_0 GW47.out ((wzC hw41_0 GW47.out ((wzC hw41_0 GW47.out ((wzC hw41_0 GW47.out (hHeld.2.2.2.1)))))))), (wzC hw41_1 GW47.out ((wzC hw41_1 GW47.out ((wzC hw41_1 GW47.out ((wzC hw41_1 GW47.out (hHeld.2.2.2.2.1)))))))), (wzC hw41_2 GW47.out ((wzC hw41_2 GW47.out ((wzC hw41_2 GW47.out ((wzC hw41_2 GW47.out (hHeld.2.2.2.2.2))))))))⟩ (fun hHeld => ?_)
 clear hK K; refine done_ (done_of HT_.out (by kernel_rfl)) ?_; have hx48_0 := HXn0_0.out; have hx48_1 := HXn0_1.out; have hx48_2 := HXn0_2.out; have hn428_0 : a0.adr ≠ gb47 := zK (zJ (zB _ _ hx48_0) GW47.out); have hn428_1 : a0.adr ≠ gb47 := zK (zJ (zB _ _ hx48_0) GW47.out); have hn428_2 : a0.adr ≠ gb47 := zK (zJ (zB _ _ hx48_0) GW47.out); have hn428_3 : a0.adr ≠ gb47 := zK (zJ (zB _ _ hx48_0) GW47.out); replace hx48_0 := (HB.out.cell (zB w _ hx48_0)).trans hx48_0; replace hx48_1 := (HB.out.cell (zB w _ hx48_1)).trans hx48_1; replace hx48_2 := (HB.out.cell (zB w _ hx48_2)).trans hx48_2; replace hx48_0 := (yF (p := ⟨gb47, 0, none⟩) hn428_0 (.slice Ao13 t37.length co13)).trans hx48_0; replace hx48_1 := (yF (p := ⟨gb47, 0, none⟩) hn428_0 (.slice Ao13 t37.length co13)).trans hx48_1; replace hx48_2 := (yF (p := ⟨gb47, 0, none⟩) hn428_0 (.slice Ao13 t37.length co13)).trans hx48_2; replace hx48_0 := (yF (p := ⟨gb47, 1, none⟩) hn428_1 (.slice Ao12 t38.length co12)).trans hx48_0; replace hx48_1 := (yF (p := ⟨gb47, 1, none⟩) hn428_1 (.slice Ao12 t38.length co12)).trans hx48_1; replace hx48_2 := (yF (p := ⟨gb47, 1, none⟩) hn428_1 (.slice Ao12 t38.length co12)).trans hx48_2; replace hx48_0 := (yF (p := ⟨gb47, 2, none⟩) hn428_2 (.slice none 0 0)).trans hx48_0; replace hx48_1 := (yF (p := ⟨gb47, 2, none⟩) hn428_2 (.slice none 0 0)).trans hx48_1; replace hx48_2 := (yF (p := ⟨gb47, 2, none⟩) hn428_2 (.slice none 0 0)).trans hx48_2; replace hx48_0 := (yF (p := ⟨gb47, 3, none⟩) hn428_3 (.int .i64 0)).trans hx48_0; replace hx48_1 := (yF (p := ⟨gb47, 3, none⟩) hn428_3 (.int .i64 0)).trans hx48_1; replace hx48_2 := (yF (p := ⟨gb47, 3, none⟩) hn428_3 (.int .i64 0)).trans hx48_2; clear hn428_0 hn428_1 hn428_2 hn428_3
 try go_wp2
 go_loopg [22] k (fun kq v22 w' => ∃ (x22_1 : Int) (x49_1 : List ByteArray) (u428002 : Value), v22 = .int .i64 x22_1 ∧ Aside0 (impl_node_shown.l0 kq a0.f2 (a0.f2.length : Int) x22_1 t37 t38 x49_1 0 = some (r1, r2, r3, r4)) ∧ Aside0 (kq ≤ k) ∧ Aside0 (Kd.R Kd.string 9 w' w.heap.size (fun k_ => some k_ ≠ ((.slice Ao12 t38.length co12) : Value).ownBlock ∧ some k_ ≠ (u428002 : Value).ownBlock) (.slice Ao13 t37.length co13) t37) ∧ Aside0 (Kd.R Kd.string 9 w' w.heap.size (fun k_ => some k_ ≠ ((.slice Ao13 t37.length co13) : Value).ownBlock ∧ some k_ ≠ (u428002 : Value).ownBlock) (.slice Ao12 t38.length co12) t38) ∧ Aside0 (Kd.R Kd.string 9 w' w.heap.size (fun k_ => some k_ ≠ ((.slice Ao13 t37.length co13) : Value).ownBlock ∧ some k_ ≠ ((.slice Ao12 t38.length co12) : Value).ownBlock) u428002 x49_1) ∧ Aside0 (w'.heap[gb39]? = some (.cells #[(.slice none 0 0), (.slice none 0 0), (.slice none 0 0), .int .i64 0] 43 (0, 0))) ∧ Aside0 (w'.heap[gb47]? = some (.cells #[(.slice Ao13 t37.length co13), (.slice Ao12 t38.length co12), u428002, .int .i64 0] 43 (0, 0))) ∧ Aside0 (Below w.heap.size w w'))
 case atStart => exact ⟨(0), (([] : List ByteArray)), (.slice none 0 0), rfl, H', ⟨Nat.le_refl _⟩, ⟨by (with_reducible repeat first | apply zQ | apply zR | apply zS); exact yC (Kd.R_far (p := ⟨gb47, 3, none⟩) (Kd.R_far (p := ⟨gb47, 2, none⟩) (Kd.R_far (p := ⟨gb47, 1, none⟩) (Kd.R_far (p := ⟨gb47, 0, none⟩) (Kd.R_types HO44.out BK47.out (by decide)) (fun _ hk => hk.2) (.slice Ao13 t37.length co13)) (fun _ hk => hk.2) (.slice Ao12 t38.length co12)) (fun _ hk => hk.2) (.slice none 0 0)) (fun _ hk => hk.2) (.int .i64 0)) (fun _ hk => ⟨hk.1, (by simp [Value.ownBlock])⟩)⟩, ⟨by (with_reducible repeat first | apply zQ | apply zR | apply zS); exact yC (Kd.R_far (p := ⟨gb47, 3, none⟩) (Kd.R_far (p := ⟨gb47, 2, none⟩) (Kd.R_far (p := ⟨gb47, 1, none⟩) (Kd.R_far (p := ⟨gb47, 0, none⟩) (Kd.R_types HO46.out BK47.out (by decide)) (fun _ hk => hk.2) (.slice Ao13 t37.length co13)) (fun _ hk => hk.2) (.slice Ao12 t38.length co12)) (fun _ hk => hk.2) (.slice none 0 0)) (fun _ hk => hk.2) (.int .i64 0)) (fun _ hk => ⟨hk.1, (by simp [Value.ownBlock])⟩)⟩, ⟨by first | exact Kd.R_nil _ _ _ _ _ | exact Kd.N_nil _ _ _ _ _ | exact Kd.V_nil _ _ _ _ _ | exact Kd.Q_nil _ _ _ _ _ | exact Kd.S_nil _ _ _ _ _⟩, ⟨by (with_reducible repeat (first | refine zL ?_ _ | refine zN ?_ | refine zM ?_ _)); refine blk_far ?_ NB39_47.out _; (with_reducible repeat (first | refine zL ?_ _ | refine zN ?_ | refine zM ?_ _)); refine blk_far ?_ NB39_47.out _; (with_reducible repeat (first | refine zL ?_ _ | refine zN ?_ | refine zM ?_ _)); refine blk_far ?_ NB39_47.out _; (with_reducible repeat (first | refine zL ?_ _ | refine zN ?_ | refine zM ?_ _)); refine blk_far ?_ NB39_47.out _; (with_reducible repeat (first | refine zL ?_ _ | refine zN ?_ | refine zM ?_ _)); exact BK39.out⟩, ⟨by (with_reducible repeat (first | refine zL ?_ _ | refine zN ?_ | refine zM ?_ _)); refine blk_put (cs := #[.slice Ao13 t37.length co13, .slice Ao12 t38.length co12, .slice none 0 0, .int .i64 0]) ?_ 3 _ rfl; (with_reducible repeat (first | refine zL ?_ _ | refine zN ?_ | refine zM ?_ _)); refine blk_put (cs := #[.slice Ao13 t37.length co13, .slice Ao12 t38.length co12, .slice none 0 0, .int .i64 0]) ?_ 2 _ rfl; (with_reducible repeat (first | refine zL ?_ _ | refine zN ?_ | refine zM ?_ _)); refine blk_put (cs := #[.slice Ao13 t37.length co13, .slice none 0 0, .slice none 0 0, .int .i64 0]) ?_ 1 _ rfl; (with_reducible repeat (first | refine zL ?_ _ | refine zN ?_ | refine zM ?_ _)); refine blk_put (cs := #[.slice none 0 0, .slice none 0 0, .slice none 0 0, .int .i64 0]) ?_ 0 _ rfl; (with_reducible repeat (first | refine zL ?_ _ | refine zN ?_ | refine zM ?_ _)); exact BK47.out⟩, ⟨by repeat (first | (with_reducible first | exact HB.out | apply zH | apply zF | apply zG | refine zI ?_ GE39.out | refine zI ?_ GE47.out) | exact HB.out)⟩⟩
 case round =>
  clear H'
  try clear c2
  try clear p2
  try clear hx4
  try clear c6
  try clear hx40_0
  try clear hx40_1
  try clear hx40_2
  try clear hx41_0
  try clear hx41_1
  try clear hx41_2
  try clear hx48_0
  try clear hx48_1
  try clear hx48_2
  obtain ⟨x22_1, x49_1, u428002, rfl, HA, HK1, HO_428000, HO_428001, HO_428002, BK39, BK47, HB⟩ := hrel
  cases gk with
  | zero => exact absurd HA.out (by simp [impl_node_shown.l0])
  | succ k1 =>
   have H := HA.out; clear HA; simp only [impl_node_shown.l0] at H
   by_cases c18 : x22_1 < (a0.f2.length : Int)
   ·rw [if_pos c18] at H
    have c18b0 : decide (x22_1 < (a0.f2.length : Int)) = true := zX c18; clear c18
    by_cases c19 : 0 ≤ x22_1
    ·rw [if_pos c19] at H
     have c19b0 : decide (0 ≤ x22_1) = true := zX c19; clear c19
     by_cases c20 : x22_1 < (a0.f2.length : Int)
     ·rw [if_pos c20] at H
      have c20b0 : decide (x22_1 < (a0.f2.length : Int)) = true := zX c20; clear c20; replace H := zAF H; obtain ⟨⟨t50, t51, t52, t53⟩, A54, H⟩ := H; replace H : ((impl_Shown_digest.f k1 t50 t51 t52 t53).bind fun t55 => (if x49_1.length < 8796093022208 then (impl_node_shown.l0 k1 a0.f2 (a0.f2.length : Int) (wrap64 (x22_1 + 1)) t37 t38 (x49_1 ++ [t55]) 0) else (none))) = some (r1, r2, r3, r4) := H; have A21 := zA A54; clear A54; replace H := zAF H; obtain ⟨t55, A56, H⟩ := H; replace H : (if x49_1.length < 8796093022208 then (impl_node_shown.l0 k1 a0.f2 (a0.f2.length : Int) (wrap64 (x22_1 + 1)) t37 t38 (x49_1 ++ [t55]) 0) else (none)) = some (r1, r2, r3, r4) := H; have A22 := zA A56; clear A56
      by_cases c23 : x49_1.length < 8796093022208
      ·rw [if_pos c23] at H
       have LMc23 := zA c23; clear c23; obtain ⟨y57, hy57⟩ : ∃ y_ : List ByteArray, y_ = (x49_1 ++ [t55]) := ⟨_, rfl⟩; replace H : (impl_node_shown.l0 k1 a0.f2 (a0.f2.length : Int) (wrap64 (x22_1 + 1)) t37 t38 y57 0) = some (r1, r2, r3, r4) := by first | (rw [hy57]; with_reducible exact H) | (have H2_ := (Option.bind_some _ _).symm.trans H; rw [hy57]; with_reducible exact H2_) | (have H2_ := (Option.bind_some _ _).symm.trans H; with_reducible exact H2_) | with_reducible exact H | (rw [hy57]; exact H) | exact H
       have Ny57 := zA hy57; clear hy57; have H' := zA H; clear H; have p58 : 0 ≤ (x22_1 : Int) := zW (by first | (with_reducible assumption) | assumption); have q58 : x22_1 < (a0.f2.length : Int) := zW (by assumption); obtain ⟨ad58, e58, hx58_0⟩ := at_N74 HRn0_2.out x22_1 p58 q58; have HN58 := zA (nd_el74 HRn0_2.out x22_1 p58 q58); obtain ⟨An429_0, cn429_0, An429_1, cn429_1, An429_2, cn429_2, hsn429_0, hsn429_1, hsn429_2, hln429_0, hin429_0, hln429_1, hin429_1, hln429_2, hin429_2⟩ := at_P74 HN58.out; have HXn429_0 := zA hsn429_0; have HRn429_0 := zA hin429_0; have HCn429_0 := zA hln429_0; have HXn429_1 := zA hsn429_1; have HRn429_1 := zA hin429_1; have HCn429_1 := zA hln429_1; have HXn429_2 := zA hsn429_2; have HRn429_2 := zA hin429_2; have HCn429_2 := zA hln429_2; clear hsn429_0 hin429_0 hln429_0 hsn429_1 hin429_1 hln429_1 hsn429_2 hin429_2 hln429_2
       cases e58
       replace hx58_0 := (HB.out.cell (zB w _ hx58_0)).trans hx58_0; replace p58 := eq_true p58; replace q58 := eq_true q58
       try go_wp2
       have n0_ := zA (zS HO_428000.out); have n1_ := zA (zS HO_428001.out); have n2_ := zA (zS HO_428002.out); have n3_ := zA (zN BK39.out); have n4_ := zA (zN BK47.out); have n5_ := zA (zG HB.out); clear HO_428000 HO_428001 HO_428002 BK39 BK47 HB; have HO_428000 := n0_; have HO_428001 := n1_; have HO_428002 := n2_; have BK39 := n3_; have BK47 := n4_; have HB := n5_; clear n0_ n1_ n2_ n3_ n4_ n5_; refine start_ (n := 9) (S := fun w' => w'.cell? ⟨gb47, 0, none⟩ = some (.slice Ao13 t37.length co13) ∧ w'.cell? ⟨gb47, 1, none⟩ = some (.slice Ao12 t38.length co12) ∧ w'.cell? ⟨gb47, 2, none⟩ = some (u428002) ∧ w'.cell? ⟨gb47, 3, none⟩ = some (.int .i64 0)) (ds := [8]) (bA 9 0) (by kernel_rfl) rfl rfl ⟨(zP BK47.out 0).trans rfl, (zP BK47.out 1).trans rfl, (zP BK47.out 2).trans rfl, (zP BK47.out 3).trans rfl⟩ (fun hHeld => ?_); refine with_tabW impl_node_shown.tab5 impl_node_shown.bits5 (fun HT_ HW_ => ?_); generalize wr.drew = w24 at HO_428000 HO_428001 HO_428002 BK39 BK47 HB hHeld ⊢; refine wzP 0 26 (bA 9 1) HT_ ?_
       refine wzP 2 28 (bA 9 5) HT_ ?_
       refine wzT 1 27 (bA 9 7) HT_ HW_ hHeld ?_
       refine one_ (i := 3) (N := some 29) (bA 9 15) rfl rfl (one_of HT_.out (by kernel_rfl)) (by decide) (fun K hK => ?_); refine goes_ Try.func28 (by kernel_rfl) rfl #[.pointer (some ⟨(rd_N74 a0.f2 x22_1).adr, 0, none⟩)] (by rfl) rfl rfl (by (try simp only [zAA, zAB, zAC]); first | done | rfl) ?_
       with_reducible refine (ih k1 (by have := HK1.out; omega) (rd_N74 a0.f2 x22_1) t50 t51 t52 t53 _ ?side1 A21.out).mono ?_
       (case side1 => repeat (first | exact (k74p.K_below HB.out HN58.out) | (with_reducible refine k74p_alloc ?_ _) | (with_reducible refine k74p_drewN ?_ _) | (with_reducible refine k74p_drew ?_))); rintro e w25 ⟨v59, v61, v62, rfl, ho0, ho1, ho2, hb⟩; refine ⟨_, rfl, ?_⟩; have n0_ := zA (yC (Kd.R_told (Kd.R_told (Kd.R_told (Kd.R_old HO_428000.out hb) (Kd.R_base ho0)) (Kd.R_base ho1)) (Kd.R_base ho2)) (fun _ h_ => h_.1)); have n1_ := zA (yC (Kd.R_told (Kd.R_told (Kd.R_told (Kd.R_old HO_428001.out hb) (Kd.R_base ho0)) (Kd.R_base ho1)) (Kd.R_base ho2)) (fun _ h_ => h_.1)); have n2_ := zA (yC (Kd.R_told (Kd.R_told (Kd.R_told (Kd.R_old HO_428002.out hb) (Kd.R_base ho0)) (Kd.R_base ho1)) (Kd.R_base ho2)) (fun _ h_ => h_.1)); have n3_ := zA (Kd.R_lower (yK (yK (yK ho0 (Kd.R_lt HO_428000.out)) (Kd.R_lt HO_428001.out)) (Kd.R_lt HO_428002.out)) (zAE HB.out)); have n4_ := zA (Kd.R_lower (yK (yK (yK ho1 (Kd.R_lt HO_428000.out)) (Kd.R_lt HO_428001.out)) (Kd.R_lt HO_428002.out)) (zAE HB.out)); have n5_ := zA (Kd.R_lower (yK (yK (yK ho2 (Kd.R_lt HO_428000.out)) (Kd.R_lt HO_428001.out)) (Kd.R_lt HO_428002.out)) (zAE HB.out)); have n6_ := zA (yE BK39.out hb); have n7_ := zA (yE BK47.out hb); have n8_ := zA (zAD HB.out hb); clear HO_428000 HO_428001 HO_428002 BK39 BK47 HB; have HO_428000 := n0_; have HO_428001 := n1_; have HO_428002 := n2_; have HO63 := n3_; have HO65 := n4_; have HO66 := n5_; have BK39 := n6_; have BK47 := n7_; have HB := n8_; clear n0_ n1_ n2_ n3_ n4_ n5_ n6_ n7_ n8_; (try clear hb); (try clear ho0); (try clear ho1); (try clear ho2); obtain ⟨Ao26, co26, eo26⟩ := Kd.R_slice HO63.out; (first | subst eo26 | (injection eo26 with f1_ f2_ f3_; have f4_ := f1_.symm; have f5_ := f3_.symm; clear f1_ f2_ f3_; subst f4_; subst f5_)); obtain ⟨Ao27, co27, eo27⟩ := Kd.R_slice HO65.out; (first | subst eo27 | (injection eo27 with f1_ f2_ f3_; have f4_ := f1_.symm; have f5_ := f3_.symm; clear f1_ f2_ f3_; subst f4_; subst f5_)); obtain ⟨Ao28, co28, eo28⟩ := Kd.R_slice HO66.out; (first | subst eo28 | (injection eo28 with f1_ f2_ f3_; have f4_ := f1_.symm; have f5_ := f3_.symm; clear f1_ f2_ f3_; subst f4_; subst f5_)); refine hK.out _ _ ⟨(zP BK47.out 0).trans rfl, (zP BK47.out 1).trans rfl, (zP BK47.out 2).trans rfl, (zP BK47.out 3).trans rfl⟩ (fun hHeld => ?_); clear hK K; refine wzN 29 ?_
       refine one_ (i := 4) (N := some 30) (bA 9 31) rfl rfl (one_of HT_.out (by kernel_rfl)) (by decide) (fun K hK => ?_); refine goes_ Try.func29 (by kernel_rfl) rfl #[.agg #[.slice Ao26 t50.length co26, .slice Ao27 t51.length co27, .slice Ao28 t52.length co28, .int .i64 t53]] (by rfl) rfl rfl (by (try simp only [zAA, zAB, zAC]); first | done | rfl | (simp only [zZ, zY]; rfl)) ?_
       with_reducible refine (impl_Shown_digest.calls k1 _ _ t50 _ _ t51 _ _ t52 t53 t55 _ ?side1 ?side2 ?side3 ?side4 ?side5 ?side6 A22.out).mono ?_
       (case side1 => exact (yD HO63.out).2.2); (case side2 => exact (yD HO63.out).2.1); (case side3 => exact (yD HO65.out).2.2); (case side4 => exact (yD HO65.out).2.1); (case side5 => exact (yD HO66.out).2.2); (case side6 => exact (yD HO66.out).2.1); rintro e w29 ⟨rfl, hb⟩; refine ⟨_, rfl, ?_⟩; have n0_ := zA (Kd.R_below HO_428000.out hb); have n1_ := zA (Kd.R_below HO_428001.out hb); have n2_ := zA (Kd.R_below HO_428002.out hb); have n3_ := zA (Kd.R_below HO63.out hb); have n4_ := zA (Kd.R_below HO65.out hb); have n5_ := zA (Kd.R_below HO66.out hb); have n6_ := zA (yE BK39.out hb); have n7_ := zA (yE BK47.out hb); have n8_ := zA (zAD HB.out hb); clear HO_428000 HO_428001 HO_428002 HO63 HO65 HO66 BK39 BK47 HB; have HO_428000 := n0_; have HO_428001 := n1_; have HO_428002 := n2_; have HO63 := n3_; have HO65 := n4_; have HO66 := n5_; have BK39 := n6_; have BK47 := n7_; have HB := n8_; clear n0_ n1_ n2_ n3_ n4_ n5_ n6_ n7_ n8_; (try clear hb); refine hK.out _ _ ⟨(zP BK47.out 0).trans rfl, (zP BK47.out 1).trans rfl, (zP BK47.out 2).trans rfl, (zP BK47.out 3).trans rfl⟩ (fun hHeld => ?_); clear hK K; refine wzN 30 ?_
       refine one_ (i := 5) (N := some 31) (bA 9 63) rfl rfl (one_of HT_.out (by kernel_rfl)) (by decide) (fun K hK => ?_); refine value_ (w1 := ?_) (v := ?_) (by rfl) rfl ?_ ?_; rotate_left 2
       ·go_simp
        constructor
        ·rfl
        ·rfl
       refine hK.out _ _ ⟨(zP (zM BK47.out _) 0).trans rfl, (zP (zM BK47.out _) 1).trans rfl, (zP (zM BK47.out _) 2).trans rfl, (zP (zM BK47.out _) 3).trans rfl⟩ (fun hHeld => ?_); clear hK K; refine wzN 31 ?_
       refine one_ (i := 6) (N := some 32) (bA 9 127) rfl rfl (one_of HT_.out (by kernel_rfl)) (by decide) (fun K hK => ?_); refine Kd.R_append_step Kd.string (w0 := w) w.heap.size (by rfl) (.tmp 27) (.tmp 31) 41 9 (.string ⟨#[]⟩) 16 rfl Try.underlying41 info9 rfl (by decide) (by omega) u428002 x49_1 t55 [.string t55] (fun k_ => some k_ ≠ (.slice Ao13 t37.length co13 : Value).ownBlock ∧ some k_ ≠ (.slice Ao12 t38.length co12 : Value).ownBlock ∧ some k_ ≠ (.slice Ao26 t50.length co26 : Value).ownBlock ∧ some k_ ≠ (.slice Ao27 t51.length co27 : Value).ownBlock ∧ some k_ ≠ (.slice Ao28 t52.length co28 : Value).ownBlock) (fun _ => False) rfl rfl ?aP (fun _ hk => hk.elim) ?aF ?aO ?aB ?aS ?aL ?_; (case aP => exact rfl); (case aB => exact HB.out); (case aF => exact (fun k_ hk => ⟨Kd.fresh' (Kd.R_lt HO_428000.out) k_ hk, Kd.fresh' (Kd.R_lt HO_428001.out) k_ hk, Kd.fresh' (Kd.R_lt HO63.out) k_ hk, Kd.fresh' (Kd.R_lt HO65.out) k_ hk, Kd.fresh' (Kd.R_lt HO66.out) k_ hk⟩)); (case aO => exact (by (with_reducible repeat first | apply zQ | apply zR | apply zS); exact yC HO_428002.out (fun _ hk => ⟨hk.1.1.1.1, ⟨hk.1.1.1.2, ⟨hk.1.1.2, ⟨hk.1.2, hk.2⟩⟩⟩⟩))); (case aS => exact (zAE HB.out)); (case aL => have := LMc23.out; omega); intro v67 w30 ho hb hg hat; rw [← Ny57.out] at ho; have n0_ := zA (Kd.R_after (ok := (fun k_ => some k_ ≠ (.slice Ao12 t38.length co12 : Value).ownBlock ∧ some k_ ≠ (.slice Ao26 t50.length co26 : Value).ownBlock ∧ some k_ ≠ (.slice Ao27 t51.length co27 : Value).ownBlock ∧ some k_ ≠ (.slice Ao28 t52.length co28 : Value).ownBlock)) (by (with_reducible repeat first | apply zQ | apply zR | apply zS); exact yC HO_428000.out (fun _ hk => ⟨⟨hk.1.1.1.1, ⟨hk.1.1.2, ⟨hk.1.2, hk.2⟩⟩⟩, hk.1.1.1.2⟩)) hg hat); have n1_ := zA (Kd.R_after (ok := (fun k_ => some k_ ≠ (.slice Ao13 t37.length co13 : Value).ownBlock ∧ some k_ ≠ (.slice Ao26 t50.length co26 : Value).ownBlock ∧ some k_ ≠ (.slice Ao27 t51.length co27 : Value).ownBlock ∧ some k_ ≠ (.slice Ao28 t52.length co28 : Value).ownBlock)) (by (with_reducible repeat first | apply zQ | apply zR | apply zS); exact yC HO_428001.out (fun _ hk => ⟨⟨hk.1.1.1.1, ⟨hk.1.1.2, ⟨hk.1.2, hk.2⟩⟩⟩, hk.1.1.1.2⟩)) hg hat); have n2_ := zA (blk_grown BK39.out hg (Kd.R_ne HO_428002.out BK39.out (by decide))); have n3_ := zA (blk_grown BK47.out hg (Kd.R_ne HO_428002.out BK47.out (by decide))); have n4_ := zA (Kd.R_after (ok := (fun k_ => some k_ ≠ (.slice Ao13 t37.length co13 : Value).ownBlock ∧ some k_ ≠ (.slice Ao12 t38.length co12 : Value).ownBlock ∧ some k_ ≠ (.slice Ao27 t51.length co27 : Value).ownBlock ∧ some k_ ≠ (.slice Ao28 t52.length co28 : Value).ownBlock)) (by (with_reducible repeat first | apply zQ | apply zR | apply zS); exact yC HO63.out (fun _ hk => ⟨⟨hk.1.1.2, ⟨hk.1.2, ⟨hk.1.1.1.1, hk.1.1.1.2⟩⟩⟩, hk.2⟩)) hg hat); have n5_ := zA (Kd.R_after (ok := (fun k_ => some k_ ≠ (.slice Ao13 t37.length co13 : Value).ownBlock ∧ some k_ ≠ (.slice Ao12 t38.length co12 : Value).ownBlock ∧ some k_ ≠ (.slice Ao26 t50.length co26 : Value).ownBlock ∧ some k_ ≠ (.slice Ao28 t52.length co28 : Value).ownBlock)) (by (with_reducible repeat first | apply zQ | apply zR | apply zS); exact yC HO65.out (fun _ hk => ⟨⟨hk.1.1.2, ⟨hk.1.2, ⟨hk.1.1.1.1, hk.1.1.1.2⟩⟩⟩, hk.2⟩)) hg hat); have n6_ := zA (Kd.R_after (ok := (fun k_ => some k_ ≠ (.slice Ao13 t37.length co13 : Value).ownBlock ∧ some k_ ≠ (.slice Ao12 t38.length co12 : Value).ownBlock ∧ some k_ ≠ (.slice Ao26 t50.length co26 : Value).ownBlock ∧ some k_ ≠ (.slice Ao27 t51.length co27 : Value).ownBlock)) (by (with_reducible repeat first | apply zQ | apply zR | apply zS); exact yC HO66.out (fun _ hk => ⟨⟨hk.1.1.2, ⟨hk.1.2, ⟨hk.1.1.1.1, hk.1.1.1.2⟩⟩⟩, hk.2⟩)) hg hat); have n7_ := zA (hb); have n8_ := zA (ho); clear HO_428000 HO_428001 BK39 BK47 HO63 HO65 HO66 HB HO_428002; have HO_428000 := n0_; have HO_428001 := n1_; have BK39 := n2_; have BK47 := n3_; have HO63 := n4_; have HO65 := n5_; have HO66 := n6_; have HB := n7_; have HO68 := n8_; clear n0_ n1_ n2_ n3_ n4_ n5_ n6_ n7_ n8_ ho hb hg hat; obtain ⟨Ao31, co31, eo31⟩ := Kd.R_slice HO68.out; (first | subst eo31 | (injection eo31 with f1_ f2_ f3_; have f4_ := f1_.symm; have f5_ := f3_.symm; clear f1_ f2_ f3_; subst f4_; subst f5_)); refine hK.out _ _ ⟨(zP BK47.out 0).trans rfl, (zP BK47.out 1).trans rfl, (zP BK47.out 2).trans rfl, (zP BK47.out 3).trans rfl⟩ (fun hHeld => ?_)
       clear hK K; refine wzN 32 ?_
       refine wzP 7 33 (bA 9 255) HT_ ?_
       refine last_ (i := 8) (N := none) (bA 9 511) rfl rfl (one_of HT_.out (by kernel_rfl)) (by decide) (fun K hK => ?_); have hs32 : w30.cell? ⟨gb47, 2, none⟩ = some (u428002) := (zP BK47.out 2).trans rfl; have hfs32 := zO BK47.out 2; have hns32_0 := NB39_47.out; have hms32_0 := NB47_39.out; refine skip_ (w1 := ?_) (by rfl) rfl ?_ ?_; rotate_left
       ·go_simp
        rfl
       refine hK.out _ _ ?_; clear hK K; refine done_ (done_of HT_.out (by kernel_rfl)) ?_
       try go_wp2
       go_roundg k1
       case measure => have := HK1.out; omega
       case rel => exact ⟨(wrap64 (x22_1 + 1)), (y57), (.slice Ao31 y57.length co31), rfl, H', ⟨by have := HK1.out; omega⟩, ⟨by (with_reducible repeat first | apply zQ | apply zR | apply zS); exact yC (Kd.R_far (p := ⟨gb47, 2, none⟩) (Kd.R_types HO_428000.out BK47.out (by decide)) (fun _ hk => hk.2) (.slice Ao31 y57.length co31)) (fun _ hk => ⟨hk.1.1.1, hk.1.2⟩)⟩, ⟨by (with_reducible repeat first | apply zQ | apply zR | apply zS); exact yC (Kd.R_far (p := ⟨gb47, 2, none⟩) (Kd.R_types HO_428001.out BK47.out (by decide)) (fun _ hk => hk.2) (.slice Ao31 y57.length co31)) (fun _ hk => ⟨hk.1.1.1, hk.1.2⟩)⟩, ⟨by (with_reducible repeat first | apply zQ | apply zR | apply zS); exact yC (Kd.R_far (p := ⟨gb47, 2, none⟩) (Kd.R_types HO68.out BK47.out (by decide)) (fun _ hk => hk.2) (.slice Ao31 y57.length co31)) (fun _ hk => ⟨hk.1.1, hk.1.2.1⟩)⟩, ⟨by (with_reducible repeat (first | refine zL ?_ _ | refine zN ?_ | refine zM ?_ _)); refine blk_far ?_ NB39_47.out _; (with_reducible repeat (first | refine zL ?_ _ | refine zN ?_ | refine zM ?_ _)); exact BK39.out⟩, ⟨by (with_reducible repeat (first | refine zL ?_ _ | refine zN ?_ | refine zM ?_ _)); refine blk_put (cs := #[.slice Ao13 t37.length co13, .slice Ao12 t38.length co12, u428002, .int .i64 0]) ?_ 2 _ rfl; (with_reducible repeat (first | refine zL ?_ _ | refine zN ?_ | refine zM ?_ _)); exact BK47.out⟩, ⟨by repeat (first | (with_reducible first | exact HB.out | apply zH | apply zF | apply zG | refine zI ?_ GE39.out | refine zI ?_ GE47.out) | exact HB.out)⟩⟩
      ·rw [if_neg c23] at H
       exact absurd H (by simp)
     ·rw [if_neg c20] at H
      exact absurd H (by simp)
    ·rw [if_neg c19] at H
     exact absurd H (by simp)
   ·rw [if_neg c18] at H
    have c18b0 : decide (x22_1 < (a0.f2.length : Int)) = false := decide_eq_false c18; clear c18; simp only [Option.some.injEq, Prod.mk.injEq] at H; obtain ⟨rfl, rfl, rfl, rfl⟩ := H; have hnb33 := NB47_39.out; have hnc33 := NB39_47.out; have hcz34_0 := yL BK47.out 0 (.slice Ao13 t37.length co13) rfl; have hcz34_1 := yL BK47.out 1 (.slice Ao12 t38.length co12) rfl; have hcz34_2 := yL BK47.out 2 (u428002) rfl; have hcz34_3 := yL BK47.out 3 (.int .i64 0) rfl; have hfz34_0 := zO BK47.out 0; have hfz34_1 := zO BK47.out 1; have hfz34_2 := zO BK47.out 2; have hfz34_3 := zO BK47.out 3; have hcz35_0 := yL BK39.out 0 (.slice none 0 0) rfl; have hcz35_1 := yL BK39.out 1 (.slice none 0 0) rfl; have hcz35_2 := yL BK39.out 2 (.slice none 0 0) rfl; have hcz35_3 := yL BK39.out 3 (.int .i64 0) rfl; have hfz35_0 := zO BK39.out 0; have hfz35_1 := zO BK39.out 1; have hfz35_2 := zO BK39.out 2; have hfz35_3 := zO BK39.out 3; obtain ⟨Ao36, co36, eo36⟩ := Kd.R_slice HO_428002.out; subst eo36; go_wp2; refine bodyPost_ret (results_cell_row rfl _ _ gb39 43 #[.slice Ao13 t37.length co13, .slice Ao12 t38.length co12, .slice Ao36 x49_1.length co36, .int .i64 0] (0, 0) _ rfl (by (with_reducible repeat (first | refine zL ?_ _ | refine zN ?_ | refine zM ?_ _)); refine blk_put (cs := #[.slice Ao13 t37.length co13, .slice Ao12 t38.length co12, .slice Ao36 x49_1.length co36, .int .i64 0]) ?_ 3 _ rfl; (with_reducible repeat (first | refine zL ?_ _ | refine zN ?_ | refine zM ?_ _)); refine blk_put (cs := #[.slice Ao13 t37.length co13, .slice Ao12 t38.length co12, .slice none 0 0, .int .i64 0]) ?_ 2 _ rfl; (with_reducible repeat (first | refine zL ?_ _ | refine zN ?_ | refine zM ?_ _)); refine blk_put (cs := #[.slice Ao13 t37.length co13, .slice none 0 0, .slice none 0 0, .int .i64 0]) ?_ 1 _ rfl; (with_reducible repeat (first | refine zL ?_ _ | refine zN ?_ | refine zM ?_ _)); refine blk_put (cs := #[.slice none 0 0, .slice none 0 0, .slice none 0 0, .int .i64 0]) ?_ 0 _ rfl; (with_reducible repeat (first | refine zL ?_ _ | refine zN ?_ | refine zM ?_ _)); exact BK39.out) Try.underlying43 rfl (by kernel_rfl)) rfl ?_; exact ⟨_, _, _, by first | rfl | (simp <;> rfl) | (simp [*] <;> rfl), by (with_reducible repeat first | apply zQ | apply zR | apply zS); exact yC (Kd.R_far (p := ⟨gb39, 3, none⟩) (Kd.R_far (p := ⟨gb39, 2, none⟩) (Kd.R_far (p := ⟨gb39, 1, none⟩) (Kd.R_far (p := ⟨gb39, 0, none⟩) (Kd.R_types HO_428000.out BK39.out (by decide)) (fun _ hk => hk.2) (.slice Ao13 t37.length co13)) (fun _ hk => hk.2) (.slice Ao12 t38.length co12)) (fun _ hk => hk.2) (.slice Ao36 x49_1.length co36)) (fun _ hk => hk.2) (.int .i64 0)) (fun _ hk => ⟨hk.1.1, hk.1.2⟩), by (with_reducible repeat first | apply zQ | apply zR | apply zS); exact yC (Kd.R_far (p := ⟨gb39, 3, none⟩) (Kd.R_far (p := ⟨gb39, 2, none⟩) (Kd.R_far (p := ⟨gb39, 1, none⟩) (Kd.R_far (p := ⟨gb39, 0, none⟩) (Kd.R_types HO_428001.out BK39.out (by decide)) (fun _ hk => hk.2) (.slice Ao13 t37.length co13)) (fun _ hk => hk.2) (.slice Ao12 t38.length co12)) (fun _ hk => hk.2) (.slice Ao36 x49_1.length co36)) (fun _ hk => hk.2) (.int .i64 0)) (fun _ hk => ⟨hk.1.1, hk.1.2⟩), by (with_reducible repeat first | apply zQ | apply zR | apply zS); exact yC (Kd.R_far (p := ⟨gb39, 3, none⟩) (Kd.R_far (p := ⟨gb39, 2, none⟩) (Kd.R_far (p := ⟨gb39, 1, none⟩) (Kd.R_far (p := ⟨gb39, 0, none⟩) (Kd.R_types HO_428002.out BK39.out (by decide)) (fun _ hk => hk.2) (.slice Ao13 t37.length co13)) (fun _ hk => hk.2) (.slice Ao12 t38.length co12)) (fun _ hk => hk.2) (.slice Ao36 x49_1.length co36)) (fun _ hk => hk.2) (.int .i64 0)) (fun _ hk => ⟨hk.1.1, hk.1.2⟩), by repeat (first | (with_reducible first | exact HB.out | apply zH | apply zF | apply zG | refine zI ?_ GE39.out | refine zI ?_ GE47.out) | exact HB.out)⟩
def laws_eqShown.f (k : Nat) (l0_0 : List ByteArray) (l0_1 : List ByteArray) (l0_2 : List ByteArray) (a0_3 : Int) (l1_0 : List ByteArray) (l1_1 : List ByteArray) (l1_2 : List ByteArray) (a1_3 : Int) : Option (Bool) := (laws_eqStringS.f k l0_0 l1_0).bind fun t10 => (if t10 = true then ((laws_eqStringS.f k l0_1 l1_1).bind fun t11 => (if t11 = true then ((laws_eqStringS.f k l0_2 l1_2).bind fun t12 => (if t12 = true then (if a0_3 = a1_3 then (some true) else (some false)) else (some false))) else (some false))) else (some false))
theorem laws_eqShown.calls (k : Nat) (A0_0 : Option Addr) (c0_0 : Nat) (l0_0 : List ByteArray) (A0_1 : Option Addr) (c0_1 : Nat) (l0_1 : List ByteArray) (A0_2 : Option Addr) (c0_2 : Nat) (l0_2 : List ByteArray) (a0_3 : Int) (A1_0 : Option Addr) (c1_0 : Nat) (l1_0 : List ByteArray) (A1_1 : Option Addr) (c1_1 : Nat) (l1_1 : List ByteArray) (A1_2 : Option Addr) (c1_2 : Nat) (l1_2 : List ByteArray) (a1_3 : Int) (r : Bool) (w : World) (hr0_0 : Kd.C Kd.string w A0_0 l0_0.length l0_0) (hc0_0 : l0_0.length ≤ c0_0) (hr0_1 : Kd.C Kd.string w A0_1 l0_1.length l0_1) (hc0_1 : l0_1.length ≤ c0_1) (hr0_2 : Kd.C Kd.string w A0_2 l0_2.length l0_2) (hc0_2 : l0_2.length ≤ c0_2) (hr1_0 : Kd.C Kd.string w A1_0 l1_0.length l1_0) (hc1_0 : l1_0.length ≤ c1_0) (hr1_1 : Kd.C Kd.string w A1_1 l1_1.length l1_1) (hc1_1 : l1_1.length ≤ c1_1) (hr1_2 : Kd.C Kd.string w A1_2 l1_2.length l1_2) (hc1_2 : l1_2.length ≤ c1_2) (h : laws_eqShown.f k l0_0 l0_1 l0_2 a0_3 l1_0 l1_1 l1_2 a1_3 = some r) (hr_ : Aside0 (r = true)) :
  Calls Try.prog 37 #[.agg #[.slice A0_0 l0_0.length c0_0, .slice A0_1 l0_1.length c0_1, .slice A0_2 l0_2.length c0_2, .int .i64 a0_3], .agg #[.slice A1_0 l1_0.length c1_0, .slice A1_1 l1_1.length c1_1, .slice A1_2 l1_2.length c1_2, .int .i64 a1_3]] w fun e w' => e = .returned (.bool r) ∧ Below w.heap.size w w' := by
 have hu43 := Try.underlying43; have HR0_0 := zA hr0_0; have HC0_0 := zA hc0_0; clear hr0_0 hc0_0; have HR0_1 := zA hr0_1; have HC0_1 := zA hc0_1; clear hr0_1 hc0_1; have HR0_2 := zA hr0_2; have HC0_2 := zA hc0_2; clear hr0_2 hc0_2; have HR1_0 := zA hr1_0; have HC1_0 := zA hc1_0; clear hr1_0 hc1_0; have HR1_1 := zA hr1_1; have HC1_1 := zA hc1_1; clear hr1_1 hc1_1; have HR1_2 := zA hr1_2; have HC1_2 := zA hc1_2; clear hr1_2 hc1_2; have HB := zA (Below.refl w.heap.size w); have H : ((laws_eqStringS.f k l0_0 l1_0).bind fun t15 => (if t15 = true then ((laws_eqStringS.f k l0_1 l1_1).bind fun t16 => (if t16 = true then ((laws_eqStringS.f k l0_2 l1_2).bind fun t17 => (if t17 = true then (if a0_3 = a1_3 then (some true) else (some false)) else (some false))) else (some false))) else (some false))) = some r := h; clear h; replace H := zAF H; obtain ⟨t15, A30, H⟩ := H; replace H : (if t15 = true then ((laws_eqStringS.f k l0_1 l1_1).bind fun t16 => (if t16 = true then ((laws_eqStringS.f k l0_2 l1_2).bind fun t17 => (if t17 = true then (if a0_3 = a1_3 then (some true) else (some false)) else (some false))) else (some false))) else (some false)) = some r := H; have A3 := zA A30; clear A30
 by_cases c4 : t15 = true
 ·subst c4
  have H1 : ((laws_eqStringS.f k l0_1 l1_1).bind fun t16 => (if t16 = true then ((laws_eqStringS.f k l0_2 l1_2).bind fun t17 => (if t17 = true then (if a0_3 = a1_3 then (some true) else (some false)) else (some false))) else (some false))) = some r := by rw [if_pos rfl] at H; exact H
  clear H; have H := H1; clear H1; replace H := zAF H; obtain ⟨t16, A50, H⟩ := H; replace H : (if t16 = true then ((laws_eqStringS.f k l0_2 l1_2).bind fun t17 => (if t17 = true then (if a0_3 = a1_3 then (some true) else (some false)) else (some false))) else (some false)) = some r := H; have A5 := zA A50; clear A50
  by_cases c6 : t16 = true
  ·subst c6
   have H1 : ((laws_eqStringS.f k l0_2 l1_2).bind fun t17 => (if t17 = true then (if a0_3 = a1_3 then (some true) else (some false)) else (some false))) = some r := by rw [if_pos rfl] at H; exact H
   clear H; have H := H1; clear H1; replace H := zAF H; obtain ⟨t17, A70, H⟩ := H; replace H : (if t17 = true then (if a0_3 = a1_3 then (some true) else (some false)) else (some false)) = some r := H; have A7 := zA A70; clear A70
   by_cases c8 : t17 = true
   ·subst c8
    have H1 : (if a0_3 = a1_3 then (some true) else (some false)) = some r := by rw [if_pos rfl] at H; exact H
    clear H; have H := H1; clear H1
    by_cases c9 : a0_3 = a1_3
    ·rw [if_pos c9] at H
     have c9b0 : (a0_3 == a1_3) = true := beq_iff_eq.mpr c9; have c9b1 : (a0_3 != a1_3) = false := bne_eq_false_iff_eq.mpr c9; clear c9; obtain rfl := yM H; go_enter Try.func37, Try.ntmps37; go_wp2_with (first | ((with_reducible refine gate_dst (N := 2) rfl ?_); refine box_event ?hg (N := 2) ?hd (cs := #[.slice A0_0 l0_0.length c0_0, .slice A0_1 l0_1.length c0_1, .slice A0_2 l0_2.length c0_2, .int .i64 a0_3]) (t := 43) ?hr ?_; (case hd => rfl); (case hg => rfl); (case hr => first | (go_simp; done) | (go_simp; rfl)); intro gb18 hg w10 hbox hb; have n0_ := zA (zAD HB.out hb); have n1_ := zA (hbox); have n2_ := zA ((by rw [hg]; exact (zAE HB.out) : w.heap.size ≤ gb18)); have n3_ := zA ((by rw [hg]; exact (zAE HB.out) : w.heap.size ≤ gb18)); clear HB; have HB := n0_; have BK18 := n1_; have GW18 := n2_; have GE18 := n3_; clear n0_ n1_ n2_ n3_; clear hb hbox hg) | ((with_reducible refine gate_dst (N := 3) rfl ?_); refine box_event ?hg (N := 3) ?hd (cs := #[.slice A1_0 l1_0.length c1_0, .slice A1_1 l1_1.length c1_1, .slice A1_2 l1_2.length c1_2, .int .i64 a1_3]) (t := 43) ?hr ?_; (case hd => rfl); (case hg => rfl); (case hr => first | (go_simp; done) | (go_simp; rfl)); intro gb19 hg w11 hbox hb; have n0_ := zA (yE BK18.out hb); have n1_ := zA (zAD HB.out hb); have n2_ := zA (hbox); have n3_ := zA ((by rw [hg]; exact (zAE HB.out) : w.heap.size ≤ gb19)); have n4_ := zA ((by rw [hg]; exact (zAE HB.out) : w.heap.size ≤ gb19)); have n5_ := zA ((by rw [hg]; exact zK (blk_lt BK18.out) : gb18 ≠ gb19)); have n6_ := zA ((by rw [hg]; exact Nat.ne_of_gt (blk_lt BK18.out) : gb19 ≠ gb18)); clear BK18; clear HB; have BK18 := n0_; have HB := n1_; have BK19 := n2_; have GW19 := n3_; have GE19 := n4_; have NB18_19 := n5_; have NB19_18 := n6_; clear n0_ n1_ n2_ n3_ n4_ n5_ n6_; clear hb hbox hg; have hnb12 := NB18_19.out; have hnc12 := NB19_18.out; have hcz13_0 := yL BK18.out 0 (.slice A0_0 l0_0.length c0_0) rfl; have hcz13_1 := yL BK18.out 1 (.slice A0_1 l0_1.length c0_1) rfl; have hcz13_2 := yL BK18.out 2 (.slice A0_2 l0_2.length c0_2) rfl; have hcz13_3 := yL BK18.out 3 (.int .i64 a0_3) rfl; have hfz13_0 := zO BK18.out 0; have hfz13_1 := zO BK18.out 1; have hfz13_2 := zO BK18.out 2; have hfz13_3 := zO BK18.out 3; have hcz14_0 := yL BK19.out 0 (.slice A1_0 l1_0.length c1_0) rfl; have hcz14_1 := yL BK19.out 1 (.slice A1_1 l1_1.length c1_1) rfl; have hcz14_2 := yL BK19.out 2 (.slice A1_2 l1_2.length c1_2) rfl; have hcz14_3 := yL BK19.out 3 (.int .i64 a1_3) rfl; have hfz14_0 := zO BK19.out 0; have hfz14_1 := zO BK19.out 1; have hfz14_2 := zO BK19.out 2; have hfz14_3 := zO BK19.out 3) | ((with_reducible refine yB (f := 73) rfl ?_); refine goesL_ (some 9) rfl rfl Try.func73 (by kernel_rfl) rfl #[.slice A0_0 l0_0.length c0_0, .slice A1_0 l1_0.length c1_0] rfl (by (try simp only [zAA, zAB, zAC]); first | done | rfl | (simp only [zZ, zY]; rfl)) ?_; (with_reducible refine (laws_eqStringS.calls k _ _ l0_0 _ _ l1_0 true _ ?side1 ?side2 ?side3 ?side4 A3.out ⟨rfl⟩).mono ?_); (case side1 => exact (yN HR0_0.out HB.out)); (case side2 => exact HC0_0.out); (case side3 => exact (yN HR1_0.out HB.out)); (case side4 => exact HC1_0.out); rintro e w' ⟨rfl, ⟨nd, rfl⟩⟩; refine ⟨_, rfl, ?_⟩) | ((with_reducible refine yB (f := 73) rfl ?_); refine goesL_ (some 15) rfl rfl Try.func73 (by kernel_rfl) rfl #[.slice A0_1 l0_1.length c0_1, .slice A1_1 l1_1.length c1_1] rfl (by (try simp only [zAA, zAB, zAC]); first | done | rfl | (simp only [zZ, zY]; rfl)) ?_; (with_reducible refine (laws_eqStringS.calls k _ _ l0_1 _ _ l1_1 true _ ?side1 ?side2 ?side3 ?side4 A5.out ⟨rfl⟩).mono ?_); (case side1 => repeat (first | exact (yN HR0_1.out HB.out) | (with_reducible first | refine zT ?_ _ | refine zU ?_ _ | refine zV ?_))); (case side2 => exact HC0_1.out); (case side3 => repeat (first | exact (yN HR1_1.out HB.out) | (with_reducible first | refine zT ?_ _ | refine zU ?_ _ | refine zV ?_))); (case side4 => exact HC1_1.out); rintro e w' ⟨rfl, ⟨nd, rfl⟩⟩; refine ⟨_, rfl, ?_⟩) | ((with_reducible refine yB (f := 73) rfl ?_); refine goesL_ (some 21) rfl rfl Try.func73 (by kernel_rfl) rfl #[.slice A0_2 l0_2.length c0_2, .slice A1_2 l1_2.length c1_2] rfl (by (try simp only [zAA, zAB, zAC]); first | done | rfl | (simp only [zZ, zY]; rfl)) ?_; (with_reducible refine (laws_eqStringS.calls k _ _ l0_2 _ _ l1_2 true _ ?side1 ?side2 ?side3 ?side4 A7.out ⟨rfl⟩).mono ?_); (case side1 => repeat (first | exact (yN HR0_2.out HB.out) | (with_reducible first | refine zT ?_ _ | refine zU ?_ _ | refine zV ?_))); (case side2 => exact HC0_2.out); (case side3 => repeat (first | exact (yN HR1_2.out HB.out) | (with_reducible first | refine zT ?_ _ | refine zU ?_ _ | refine zV ?_))); (case side4 => exact HC1_2.out); rintro e w' ⟨rfl, ⟨nd, rfl⟩⟩; refine ⟨_, rfl, ?_⟩))
     go_ret; exact ⟨by first | rfl | (simp <;> rfl) | (simp [*] <;> rfl), by repeat (first | (with_reducible first | exact HB.out | apply zH | apply zF | apply zG | refine zI ?_ GE18.out | refine zI ?_ GE19.out) | exact HB.out)⟩
    ·rw [if_neg c9] at H
     have c9b0 : (a0_3 == a1_3) = false := beq_eq_false_iff_ne.mpr c9; have c9b1 : (a0_3 != a1_3) = true := bne_iff_ne.mpr c9; exact absurd ((yM H).trans hr_.out) (by decide)
   ·replace c8 := yO c8
    subst c8; have H1 : (some false) = some r := by rw [if_neg (show ¬ (false = true) by decide)] at H; exact H
    clear H; have H := H1; clear H1; exact absurd ((yM H).trans hr_.out) (by decide)
  ·replace c6 := yO c6
   subst c6; have H1 : (some false) = some r := by rw [if_neg (show ¬ (false = true) by decide)] at H; exact H
   clear H; have H := H1; clear H1; exact absurd ((yM H).trans hr_.out) (by decide)
 ·replace c4 := yO c4
  subst c4; have H1 : (some false) = some r := by rw [if_neg (show ¬ (false = true) by decide)] at H; exact H
  clear H; have H := H1; clear H1; exact absurd ((yM H).trans hr_.out) (by decide)
def laws_markText.l0 : Nat → Int → ByteArray → Option (ByteArray)
 | 0, _, _ => none
 | k + 1, x0, x3 => if x0 > 0 then ((some (([(wrap64 (48 + (Int.tmod x0 10))) % 256] : List Int) : List Int)).bind fun y10 => (if (strOfNums y10).size + x3.size ≤ 9223372036854775807 then (laws_markText.l0 k (wrap64 (Int.tdiv x0 10)) ((strOfNums y10) ++ x3)) else (none))) else (if 1 + x3.size ≤ 9223372036854775807 then (some ((⟨#[109]⟩ : ByteArray) ++ x3)) else (none))
def laws_markText.f (k : Nat) (a0 : Int) : Option (ByteArray) := if a0 ≤ 0 then (some (⟨#[109, 48]⟩ : ByteArray)) else (laws_markText.l0 k a0 (⟨#[]⟩ : ByteArray))
theorem laws_markText.calls (k : Nat) (a0 : Int) (r : ByteArray) (w : World) (h : laws_markText.f k a0 = some r) :
  Calls Try.prog 74 #[.int .i64 a0] w fun e w' => e = .returned (.string r) ∧ Below w.heap.size w w' := by
 have HB := zA (Below.refl w.heap.size w); have H : (if a0 ≤ 0 then (some (⟨#[109, 48]⟩ : ByteArray)) else (laws_markText.l0 k a0 (⟨#[]⟩ : ByteArray))) = some r := h; clear h
 by_cases c2 : a0 ≤ 0
 ·rw [if_pos c2] at H
  have c2b0 : decide (a0 ≤ 0) = true := zX c2; clear c2; obtain rfl := yM H; go_enter Try.func74, Try.ntmps74; go_wp2; go_ret; exact ⟨by first | rfl | (simp <;> rfl) | (simp [*] <;> rfl), HB.out⟩
 ·rw [if_neg c2] at H
  have c2b0 : decide (a0 ≤ 0) = false := decide_eq_false c2; clear c2; have H' := zA H; clear H; go_enter Try.func74, Try.ntmps74; go_wp2; go_loopg [0, 3] k (fun kq v0 v3 w' => ∃ (x0_1 : Int) (x3_1 : ByteArray), v0 = .int .i64 x0_1 ∧ v3 = .string x3_1 ∧ Aside0 (laws_markText.l0 kq x0_1 x3_1 = some r) ∧ Aside0 (kq ≤ k) ∧ Aside0 (Below w.heap.size w w'))
  case atStart => exact ⟨(a0), ((⟨#[]⟩ : ByteArray)), rfl, rfl, H', ⟨Nat.le_refl _⟩, ⟨HB.out⟩⟩
  case round =>
   clear H'
   try clear c2
   try clear c2b0
   try clear p2
   obtain ⟨x0_1, x3_1, rfl, rfl, HA, HK1, HB⟩ := hrel
   cases gk with
   | zero => exact absurd HA.out (by simp [laws_markText.l0])
   | succ k1 =>
    have H := HA.out; clear HA; simp only [laws_markText.l0] at H
    by_cases c3 : x0_1 > 0
    ·rw [if_pos c3] at H
     have c3b0 : decide (0 < x0_1) = true := zX c3; clear c3; obtain ⟨y10, hy10⟩ : ∃ y_ : List Int, y_ = (([(wrap64 (48 + (Int.tmod x0_1 10))) % 256] : List Int)) := ⟨_, rfl⟩; replace H : (if (strOfNums y10).size + x3_1.size ≤ 9223372036854775807 then (laws_markText.l0 k1 (wrap64 (Int.tdiv x0_1 10)) ((strOfNums y10) ++ x3_1)) else (none)) = some r := by first | (rw [hy10]; with_reducible exact H) | (have H2_ := (Option.bind_some _ _).symm.trans H; rw [hy10]; with_reducible exact H2_) | (have H2_ := (Option.bind_some _ _).symm.trans H; with_reducible exact H2_) | with_reducible exact H | (rw [hy10]; exact H) | exact H
     have Ny10 := zA hy10; clear hy10
     by_cases c4 : (strOfNums y10).size + x3_1.size ≤ 9223372036854775807
     ·rw [if_pos c4] at H
      have c4b0 := eq_true c4; have c4b1 : decide ((strOfNums y10).size + x3_1.size ≤ 9223372036854775807) = true := zX c4
      try have c4b2 : (9223372036854775807 < (strOfNums y10).size + x3_1.size) = False := eq_false (Nat.not_lt.2 c4)
      have H' := zA H; clear H; go_wp2_with (first | ((with_reducible refine gate_dst (N := 12) rfl ?_); refine Kd.R_lit (Kd.int .u8) _ 5 ?hg (N := 12) ?hd (xs := ([(wrap64 (48 + (Int.tmod x0_1 10))) % 256] : List Int)) (inner := [.int .u8 ((wrap64 (48 + (Int.tmod x0_1 10))) % 256)]) (ok := fun _ => True) (okp := fun _ => True) ?hr ?hp (fun _ hk => hk) trivial (Below.refl _ _) (Nat.le_refl _) (by simp) ?_; (case hd => rfl); (case hg => rfl); (case hr => first | (go_simp; done) | (go_simp; rfl)); (case hp => exact (Reps.one (show Kd.M (Kd.int .u8) _ _ _ ((wrap64 (48 + (Int.tmod x0_1 10))) % 256) [.int .u8 ((wrap64 (48 + (Int.tmod x0_1 10))) % 256)] from rfl) (Reps.none _ _))); intro v11 w5 ho6 hb hg_ hnew_; clear hg_ hnew_; (first | rw [← Ny10.out] at ho6 | (simp only [Int.reduceToNat] at ho6; rw [← Ny10.out] at ho6)); have n0_ := zA (Kd.R_lower ho6 (zAE HB.out)); have n1_ := zA (zAD HB.out hb); clear HB; have HO12 := n0_; have HB := n1_; clear n0_ n1_; clear hb ho6; have hcv7 := own_string (P := Try.prog) Try.underlying119 Try.underlying5 Try.underlying9 (Kd.own_of_R HO12.out))); go_roundg k1
      case measure => have := HK1.out; omega
      case rel => exact ⟨(wrap64 (Int.tdiv x0_1 10)), ((strOfNums y10) ++ x3_1), rfl, rfl, H', ⟨by have := HK1.out; omega⟩, ⟨HB.out⟩⟩
     ·rw [if_neg c4] at H
      exact absurd H (by simp)
    ·rw [if_neg c3] at H
     have c3b0 : decide (0 < x0_1) = false := decide_eq_false c3; clear c3
     by_cases c8 : 1 + x3_1.size ≤ 9223372036854775807
     ·rw [if_pos c8] at H
      have c8b0 := eq_true c8; have c8b1 : decide (1 + x3_1.size ≤ 9223372036854775807) = true := zX c8
      try have c8b2 : (9223372036854775807 < 1 + x3_1.size) = False := eq_false (Nat.not_lt.2 c8)
      obtain rfl := yM H; go_wp2; go_ret; exact ⟨by first | rfl | (simp <;> rfl) | (simp [*] <;> rfl), HB.out⟩
     ·rw [if_neg c8] at H
      exact absurd H (by simp)
def laws_markStringS.l0 : Nat → List ByteArray → Int → Int → Option (Int × List ByteArray)
 | 0, _, _, _ => none
 | k + 1, x0, x1, x5 => if x5 < (x0.length : Int) then ((laws_markText.f k x1).bind fun t10 => (if 0 ≤ x5 then (laws_markStringS.l0 k (x0.set (x5 : Int).toNat t10) (wrap64 (x1 + 1)) (wrap64 (x5 + 1))) else (none))) else (some (x1, x0))
def laws_markStringS.f (k : Nat) (l0 : List ByteArray) (a1 : Int) : Option (Int × List ByteArray) := laws_markStringS.l0 k l0 a1 0
theorem laws_markStringS.calls (k : Nat) (P0_ : Nat → Prop) (u9000_ : Value) (l0 : List ByteArray) (a1 : Int) (r1 : Int) (r2 : List ByteArray) (w0 w : World) (hB : Below w0.heap.size w0 w) (ho0 : Kd.R Kd.string 9 w w0.heap.size P0_ u9000_ l0) (h : laws_markStringS.f k l0 a1 = some (r1, r2)) :
  Calls Try.prog 39 #[u9000_, .int .i64 a1] w fun e w' => e = .returned (.int .i64 r1) ∧ Kd.R Kd.string 9 w' w0.heap.size (fun k_ => (P0_ k_ ∨ w.heap.size ≤ k_)) u9000_ r2 ∧ Below w0.heap.size w0 w' ∧ Kept w w' (fun k_ => P0_ k_) := by
 have HO0 := zA (show Kd.R Kd.string 9 w w0.heap.size (fun k_ => (P0_ k_ ∨ w.heap.size ≤ k_)) u9000_ l0 from yC ho0 (fun k_ hk => (.inl hk))); have HK := zA (Kept.refl w (fun k_ => P0_ k_)); have HW0 := zA hB.size; have HB := zA hB; clear hB; have H : (laws_markStringS.l0 k l0 a1 0) = some (r1, r2) := h; clear h; have H' := zA H; clear H; go_enter Try.func39, Try.ntmps39; go_wp2; go_loopg [1, 5] k (fun kq v1 v5 w' => ∃ (x0_1 : List ByteArray) (x1_1 : Int) (x5_1 : Int), v1 = .int .i64 x1_1 ∧ v5 = .int .i64 x5_1 ∧ Aside0 (laws_markStringS.l0 kq x0_1 x1_1 x5_1 = some (r1, r2)) ∧ Aside0 (kq ≤ k) ∧ Aside0 (Kd.R Kd.string 9 w' w0.heap.size (fun k_ => (P0_ k_ ∨ w.heap.size ≤ k_)) u9000_ x0_1) ∧ Aside0 (Kept w w' (fun k_ => P0_ k_)) ∧ Aside0 (Below w0.heap.size w0 w'))
 case atStart => exact ⟨(l0), (a1), (0), rfl, rfl, H', ⟨Nat.le_refl _⟩, ⟨by (with_reducible repeat first | apply zQ | apply zR | apply zS); exact HO0.out⟩, ⟨HK.out⟩, ⟨HB.out⟩⟩
 case round =>
  clear H'
  try clear p2
  obtain ⟨x0_1, x1_1, x5_1, rfl, rfl, HA, HK1, HO_0, HK, HB⟩ := hrel
  cases gk with
  | zero => exact absurd HA.out (by simp [laws_markStringS.l0])
  | succ k1 =>
   have H := HA.out; clear HA; simp only [laws_markStringS.l0] at H
   by_cases c3 : x5_1 < (x0_1.length : Int)
   ·rw [if_pos c3] at H
    have c3b0 : decide (x5_1 < (x0_1.length : Int)) = true := zX c3; clear c3; replace H := zAF H; obtain ⟨t12, A40, H⟩ := H; replace H : (if 0 ≤ x5_1 then (laws_markStringS.l0 k1 (x0_1.set (x5_1 : Int).toNat t12) (wrap64 (x1_1 + 1)) (wrap64 (x5_1 + 1))) else (none)) = some (r1, r2) := H; have A4 := zA A40; clear A40
    by_cases c5 : 0 ≤ x5_1
    ·rw [if_pos c5] at H
     have c5b0 : decide (0 ≤ x5_1) = true := zX c5; clear c5; obtain ⟨y13, hy13⟩ : ∃ y_ : List ByteArray, y_ = (x0_1.set (x5_1 : Int).toNat t12) := ⟨_, rfl⟩; replace H : (laws_markStringS.l0 k1 y13 (wrap64 (x1_1 + 1)) (wrap64 (x5_1 + 1))) = some (r1, r2) := by first | (rw [hy13]; with_reducible exact H) | (have H2_ := (Option.bind_some _ _).symm.trans H; rw [hy13]; with_reducible exact H2_) | (have H2_ := (Option.bind_some _ _).symm.trans H; with_reducible exact H2_) | with_reducible exact H | (rw [hy13]; exact H) | exact H
     have Ny13 := zA hy13; clear hy13; have H' := zA H; clear H; obtain ⟨Ao7, co7, eo7⟩ := Kd.R_slice HO_0.out; subst eo7; go_wp2_with (first | ((with_reducible refine yB (f := 74) rfl ?_); refine goesL_ (some 15) rfl rfl Try.func74 (by kernel_rfl) rfl #[.int .i64 x1_1] rfl (by (try simp only [zAA, zAB, zAC]); first | done | rfl) ?_; (with_reducible refine (laws_markText.calls k1 x1_1 t12 _ A4.out).mono ?_); rintro e w8 ⟨rfl, hb⟩; refine ⟨_, rfl, ?_⟩; have n0_ := zA (Kd.R_below HO_0.out hb); have n1_ := zA (Kept.below (S := (fun k_ => P0_ k_)) HK.out hb); have n2_ := zA (zAD HB.out hb); clear HO_0; clear HK; clear HB; have HO_0 := n0_; have HK := n1_; have HB := n2_; clear n0_ n1_ n2_; (try clear hb); have p6 : 0 ≤ (x5_1 : Int) := zW (by assumption); have q6 : (x5_1 : Int) < ((x0_1.length : Int) : Int) := zW (by assumption); obtain ⟨go6, co6, eo6, gb6, gl6, cl6, HG6⟩ := Kd.R_form HO_0.out (by omega); (first | cases eo6 | (injection eo6 with ea_ en_ ec_; (first | subst ea_ | (injection ea_ with ea_; subst ea_)); subst ec_; clear en_)); have GB6 := zA gb6; have GG6 := zA HG6; clear gb6 gl6 HG6; have HMgo6 := zA (show (P0_ go6 ∨ w.heap.size ≤ go6) from (HO_0.out.1 _ rfl)); obtain ⟨hx6_0, hf6_0⟩ := Kd.R_celln (⟨#[]⟩ : ByteArray) HO_0.out (x5_1 : Int) p6 q6; replace p6 := eq_true p6; replace q6 := eq_true q6; obtain ⟨hy9_, hz9_⟩ := Kd.R_celln (⟨#[]⟩ : ByteArray) HO_0.out (x5_1 : Int) (zW (by assumption)) (zW (by assumption)); have HP9 := Kd.R_putg HO_0.out (x5_1 : Int) t12) | ((with_reducible refine gate_store (t := 9) (p := 16) rfl ?_); refine store_event (t := 9) (p := 16) (v := ?vo_w10) (w1 := (w8.setCell ⟨go6, (x5_1 : Int).toNat, none⟩ (.string t12))) ?hg ?ho ?hn ?hr ?_; (case ho => rfl); (case hg => rfl); (case hn => rfl); (case hr => first | (go_simp; done) | (go_simp; rfl)); intro w10 hw; have hg : w8.grownBy w10 (some go6) := (by rw [hw]; exact HP9.2); have hp_ : Kd.R Kd.string 9 w10 w0.heap.size (fun k_ => (P0_ k_ ∨ w.heap.size ≤ k_)) (.slice (some ⟨go6, 0, none⟩) x0_1.length co7) y13 := (by rw [hw, Ny13.out]; exact HP9.1); clear HP9; have n0_ := zA (hp_); have n1_ := zA ((by rw [hw]; exact zI (HB.out) GB6.out : Below w0.heap.size w0 w10)); have n2_ := zA (Kept.of_grown (S := (fun k_ => P0_ k_)) hg HK.out (fun k_ e_ => (HO_0.out.1 k_ e_))); clear HO_0; clear HB; clear HK; have HO_0 := n0_; have HB := n1_; have HK := n2_; clear n0_ n1_ n2_; clear hg hw hp_)); go_roundg k1
     case measure => have := HK1.out; omega
     case rel => exact ⟨(y13), (wrap64 (x1_1 + 1)), (wrap64 (x5_1 + 1)), rfl, rfl, H', ⟨by have := HK1.out; omega⟩, ⟨by (with_reducible repeat first | apply zQ | apply zR | apply zS); exact HO_0.out⟩, ⟨HK.out⟩, ⟨HB.out⟩⟩
    ·rw [if_neg c5] at H
     exact absurd H (by simp)
   ·rw [if_neg c3] at H
    have c3b0 : decide (x5_1 < (x0_1.length : Int)) = false := decide_eq_false c3; clear c3; simp only [Option.some.injEq, Prod.mk.injEq] at H; obtain ⟨rfl, rfl⟩ := H; obtain ⟨Ao11, co11, eo11⟩ := Kd.R_slice HO_0.out; subst eo11; go_wp2; go_ret; exact ⟨by first | rfl | (simp <;> rfl) | (simp [*] <;> rfl), by (with_reducible repeat first | apply zQ | apply zR | apply zS); exact HO_0.out, HB.out, HK.out⟩
def laws_markIntS.l0 : Nat → List Int → Int → Int → Option (Int × List Int)
 | 0, _, _, _ => none
 | k + 1, x0, x1, x5 => if x5 < (x0.length : Int) then (if 0 ≤ x5 then (laws_markIntS.l0 k (x0.set (x5 : Int).toNat x1) (wrap64 (x1 + 1)) (wrap64 (x5 + 1))) else (none)) else (some (x1, x0))
def laws_markIntS.f (k : Nat) (l0 : List Int) (a1 : Int) : Option (Int × List Int) := laws_markIntS.l0 k l0 a1 0
theorem laws_markIntS.calls (k : Nat) (P0_ : Nat → Prop) (u9000_ : Value) (l0 : List Int) (a1 : Int) (r1 : Int) (r2 : List Int) (w0 w : World) (hB : Below w0.heap.size w0 w) (ho0 : Kd.R (Kd.int .i64) 3 w w0.heap.size P0_ u9000_ l0) (h : laws_markIntS.f k l0 a1 = some (r1, r2)) :
  Calls Try.prog 48 #[u9000_, .int .i64 a1] w fun e w' => e = .returned (.int .i64 r1) ∧ Kd.R (Kd.int .i64) 3 w' w0.heap.size (fun k_ => (P0_ k_ ∨ w.heap.size ≤ k_)) u9000_ r2 ∧ Below w0.heap.size w0 w' ∧ Kept w w' (fun k_ => P0_ k_) := by
 have HO0 := zA (show Kd.R (Kd.int .i64) 3 w w0.heap.size (fun k_ => (P0_ k_ ∨ w.heap.size ≤ k_)) u9000_ l0 from yC ho0 (fun k_ hk => (.inl hk))); have HK := zA (Kept.refl w (fun k_ => P0_ k_)); have HW0 := zA hB.size; have HB := zA hB; clear hB; have H : (laws_markIntS.l0 k l0 a1 0) = some (r1, r2) := h; clear h; have H' := zA H; clear H; go_enter Try.func48, Try.ntmps48; go_wp2; go_loopg [1, 5] k (fun kq v1 v5 w' => ∃ (x0_1 : List Int) (x1_1 : Int) (x5_1 : Int), v1 = .int .i64 x1_1 ∧ v5 = .int .i64 x5_1 ∧ Aside0 (laws_markIntS.l0 kq x0_1 x1_1 x5_1 = some (r1, r2)) ∧ Aside0 (kq ≤ k) ∧ Aside0 (Kd.R (Kd.int .i64) 3 w' w0.heap.size (fun k_ => (P0_ k_ ∨ w.heap.size ≤ k_)) u9000_ x0_1) ∧ Aside0 (Kept w w' (fun k_ => P0_ k_)) ∧ Aside0 (Below w0.heap.size w0 w'))
 case atStart => exact ⟨(l0), (a1), (0), rfl, rfl, H', ⟨Nat.le_refl _⟩, ⟨by (with_reducible repeat first | apply zQ | apply zR | apply zS); exact HO0.out⟩, ⟨HK.out⟩, ⟨HB.out⟩⟩
 case round =>
  clear H'
  try clear p2
  obtain ⟨x0_1, x1_1, x5_1, rfl, rfl, HA, HK1, HO_0, HK, HB⟩ := hrel
  cases gk with
  | zero => exact absurd HA.out (by simp [laws_markIntS.l0])
  | succ k1 =>
   have H := HA.out; clear HA; simp only [laws_markIntS.l0] at H
   by_cases c3 : x5_1 < (x0_1.length : Int)
   ·rw [if_pos c3] at H
    have c3b0 : decide (x5_1 < (x0_1.length : Int)) = true := zX c3; clear c3
    by_cases c4 : 0 ≤ x5_1
    ·rw [if_pos c4] at H
     have c4b0 : decide (0 ≤ x5_1) = true := zX c4; clear c4; obtain ⟨y10, hy10⟩ : ∃ y_ : List Int, y_ = (x0_1.set (x5_1 : Int).toNat x1_1) := ⟨_, rfl⟩; replace H : (laws_markIntS.l0 k1 y10 (wrap64 (x1_1 + 1)) (wrap64 (x5_1 + 1))) = some (r1, r2) := by first | (rw [hy10]; with_reducible exact H) | (have H2_ := (Option.bind_some _ _).symm.trans H; rw [hy10]; with_reducible exact H2_) | (have H2_ := (Option.bind_some _ _).symm.trans H; with_reducible exact H2_) | with_reducible exact H | (rw [hy10]; exact H) | exact H
     have Ny10 := zA hy10; clear hy10; have H' := zA H; clear H; obtain ⟨Ao6, co6, eo6⟩ := Kd.R_slice HO_0.out; subst eo6; have p5 : 0 ≤ (x5_1 : Int) := zW (by assumption); have q5 : (x5_1 : Int) < ((x0_1.length : Int) : Int) := zW (by assumption); obtain ⟨go5, co5, eo5, gb5, gl5, cl5, HG5⟩ := Kd.R_form HO_0.out (by omega); (first | cases eo5 | (injection eo5 with ea_ en_ ec_; (first | subst ea_ | (injection ea_ with ea_; subst ea_)); subst ec_; clear en_)); have GB5 := zA gb5; have GG5 := zA HG5; clear gb5 gl5 HG5; have HMgo5 := zA (show (P0_ go5 ∨ w.heap.size ≤ go5) from (HO_0.out.1 _ rfl)); obtain ⟨hx5_0, hf5_0⟩ := Kd.R_celln 0 HO_0.out (x5_1 : Int) p5 q5; replace p5 := eq_true p5; replace q5 := eq_true q5; have HP7 := Kd.R_putg HO_0.out (x5_1 : Int) x1_1; go_wp2_with (first | ((with_reducible refine gate_store (t := 3) (p := 15) rfl ?_); refine store_event (t := 3) (p := 15) (v := ?vo_w8) (w1 := (wr.setCell ⟨go5, (x5_1 : Int).toNat, none⟩ (.int .i64 x1_1))) ?hg ?ho ?hn ?hr ?_; (case ho => rfl); (case hg => rfl); (case hn => rfl); (case hr => first | (go_simp; done) | (go_simp; rfl)); intro w8 hw; have hg : wr.grownBy w8 (some go5) := (by rw [hw]; exact HP7.2); have hp_ : Kd.R (Kd.int .i64) 3 w8 w0.heap.size (fun k_ => (P0_ k_ ∨ w.heap.size ≤ k_)) (.slice (some ⟨go5, 0, none⟩) x0_1.length co6) y10 := (by rw [hw, Ny10.out]; exact HP7.1); clear HP7; have n0_ := zA (hp_); have n1_ := zA ((by rw [hw]; exact zI (HB.out) GB5.out : Below w0.heap.size w0 w8)); have n2_ := zA (Kept.of_grown (S := (fun k_ => P0_ k_)) hg HK.out (fun k_ e_ => (HO_0.out.1 k_ e_))); clear HO_0; clear HB; clear HK; have HO_0 := n0_; have HB := n1_; have HK := n2_; clear n0_ n1_ n2_; clear hg hw hp_)); go_roundg k1
     case measure => have := HK1.out; omega
     case rel => exact ⟨(y10), (wrap64 (x1_1 + 1)), (wrap64 (x5_1 + 1)), rfl, rfl, H', ⟨by have := HK1.out; omega⟩, ⟨by (with_reducible repeat first | apply zQ | apply zR | apply zS); exact HO_0.out⟩, ⟨HK.out⟩, ⟨HB.out⟩⟩
    ·rw [if_neg c4] at H
     exact absurd H (by simp)
   ·rw [if_neg c3] at H
    have c3b0 : decide (x5_1 < (x0_1.length : Int)) = false := decide_eq_false c3; clear c3; simp only [Option.some.injEq, Prod.mk.injEq] at H; obtain ⟨rfl, rfl⟩ := H; obtain ⟨Ao9, co9, eo9⟩ := Kd.R_slice HO_0.out; subst eo9; go_wp2; go_ret; exact ⟨by first | rfl | (simp <;> rfl) | (simp [*] <;> rfl), by (with_reducible repeat first | apply zQ | apply zR | apply zS); exact HO_0.out, HB.out, HK.out⟩
def laws_heldStringS.l0 : Nat → List ByteArray → Int → Int → Option (Int)
 | 0, _, _, _ => none
 | k + 1, x0, x1, x5 => if x5 < (x0.length : Int) then (if 0 ≤ x5 then ((laws_markText.f k x1).bind fun t10 => (if (rdOf ByteArray.empty x0 x5).toList = t10.toList then (laws_heldStringS.l0 k x0 (wrap64 (x1 + 1)) (wrap64 (x5 + 1))) else (some (-1)))) else (none)) else (some x1)
def laws_heldStringS.f (k : Nat) (l0 : List ByteArray) (a1 : Int) : Option (Int) := laws_heldStringS.l0 k l0 a1 0
theorem laws_heldStringS.calls (k : Nat) (A0 : Option Addr) (c0 : Nat) (l0 : List ByteArray) (a1 : Int) (r : Int) (w : World) (hr0 : Kd.C Kd.string w A0 l0.length l0) (hc0 : l0.length ≤ c0) (h : laws_heldStringS.f k l0 a1 = some r) :
  Calls Try.prog 40 #[.slice A0 l0.length c0, .int .i64 a1] w fun e w' => e = .returned (.int .i64 r) ∧ Below w.heap.size w w' := by
 have HR0 := zA hr0; have HC0 := zA hc0; clear hr0 hc0; have HB := zA (Below.refl w.heap.size w); have H : (laws_heldStringS.l0 k l0 a1 0) = some r := h; clear h; have H' := zA H; clear H; go_enter Try.func40, Try.ntmps40; go_wp2; go_loopg [1, 5] k (fun kq v1 v5 w' => ∃ (x1_1 : Int) (x5_1 : Int), v1 = .int .i64 x1_1 ∧ v5 = .int .i64 x5_1 ∧ Aside0 (laws_heldStringS.l0 kq l0 x1_1 x5_1 = some r) ∧ Aside0 (kq ≤ k) ∧ Aside0 (Below w.heap.size w w'))
 case atStart => exact ⟨(a1), (0), rfl, rfl, H', ⟨Nat.le_refl _⟩, ⟨HB.out⟩⟩
 case round =>
  clear H'
  try clear p2
  obtain ⟨x1_1, x5_1, rfl, rfl, HA, HK1, HB⟩ := hrel
  cases gk with
  | zero => exact absurd HA.out (by simp [laws_heldStringS.l0])
  | succ k1 =>
   have H := HA.out; clear HA; simp only [laws_heldStringS.l0] at H
   by_cases c3 : x5_1 < (l0.length : Int)
   ·rw [if_pos c3] at H
    have c3b0 : decide (x5_1 < (l0.length : Int)) = true := zX c3; clear c3
    by_cases c4 : 0 ≤ x5_1
    ·rw [if_pos c4] at H
     have c4b0 : decide (0 ≤ x5_1) = true := zX c4; clear c4; replace H := zAF H; obtain ⟨t11, A50, H⟩ := H; replace H : (if (rdOf ByteArray.empty l0 x5_1).toList = t11.toList then (laws_heldStringS.l0 k1 l0 (wrap64 (x1_1 + 1)) (wrap64 (x5_1 + 1))) else (some (-1))) = some r := H; have A5 := zA A50; clear A50
     by_cases c6 : (rdOf ByteArray.empty l0 x5_1).toList = t11.toList
     ·rw [if_pos c6] at H
      have c6b0 : ((rdOf ByteArray.empty l0 x5_1).toList == t11.toList) = true := beq_iff_eq.mpr c6; have c6b1 : ((rdOf ByteArray.empty l0 x5_1).toList != t11.toList) = false := bne_eq_false_iff_eq.mpr c6; clear c6; have H' := zA H; clear H
      try go_wp2
      have n0_ := zA (zG HB.out); clear HB; have HB := n0_; clear n0_; have p12 : 0 ≤ (x5_1 : Int) := zW (by assumption); have q12 : x5_1 < (l0.length : Int) := zW (by assumption); obtain ⟨ad12, e12, hx12_0⟩ := Kd.at_string HR0.out x5_1 p12 q12; have hw12_0 := hx12_0
      cases e12
      replace hx12_0 := (HB.out.cell (zB w _ hx12_0)).trans hx12_0; replace p12 := eq_true p12; replace q12 := eq_true q12; refine start_ (n := 7) (S := fun w' => w'.cell? (ad12.add (x5_1).toNat) = some (.string (rdOf ByteArray.empty l0 x5_1))) (ds := []) (bA 7 0) (by kernel_rfl) rfl rfl (((HB.out.cell (zB w _ hw12_0)).trans hw12_0)) (fun hHeld => ?_); generalize wr.drew = w7 at HB hx12_0 hHeld ⊢; refine pure_ (i := 0) (N := some 12) (v := ?_) (a' := ?_) (bA 7 1) rfl rfl (by kernel_rfl) (fun _ _ _ h => h) (Or.inl ⟨by rfl, ?_⟩) ?_ ?_; rotate_left
      ·intro w'
       go_simp
       with_reducible rfl
      rotate_left
      ·simp only [Act.put, zC, zD, zE, i64_w]
       rfl
      refine pure_ (i := 1) (N := some 13) (v := ?_) (a' := ?_) (bA 7 3) rfl rfl (by kernel_rfl) (fun _ _ _ h => h) (Or.inl ⟨by rfl, ?_⟩) ?_ ?_; rotate_left
      ·intro w'
       go_simp
       with_reducible rfl
      rotate_left
      ·simp only [Act.put, zC, zD, zE, i64_w]
       rfl
      refine pure_ (i := 2) (N := some 14) (v := ?_) (a' := ?_) (bA 7 7) rfl rfl (by kernel_rfl) (fun _ _ _ h => h) (Or.inl ⟨by rfl, ?_⟩) ?_ ?_; rotate_left
      ·intro w'
       go_simp
       with_reducible rfl
      rotate_left
      ·simp only [Act.put, zC, zD, zE, i64_w]
       rfl
      refine pure_ (i := 4) (N := some 16) (v := ?_) (a' := ?_) (bA 7 23) rfl rfl (by kernel_rfl) (fun _ _ _ h => h) (Or.inl ⟨by rfl, ?_⟩) ?_ ?_; rotate_left
      ·intro w'
       go_simp
       with_reducible rfl
      rotate_left
      ·simp only [Act.put, zC, zD, zE, i64_w]
       rfl
      refine take_ (i := 3) (N := some 15) (v := ?_) (a' := ?_) (bA 7 31) rfl rfl (by kernel_rfl) (fun _ _ _ h => h) (Or.inl ⟨by rfl, ?_⟩) hHeld ?_ ?_; rotate_left
      ·intro w' s0
       go_simp
       with_reducible rfl
      rotate_left
      ·simp only [Act.put, zC, zD, zE, i64_w]
       rfl
      refine one_ (i := 5) (N := some 17) (bA 7 63) rfl rfl (by kernel_rfl) (by decide) (fun K hK => ?_); refine goes_ Try.func74 (by kernel_rfl) rfl #[.int .i64 x1_1] (by rfl) rfl rfl (by (try simp only [zAA, zAB, zAC]); first | done | rfl) ?_
      with_reducible refine (laws_markText.calls k1 x1_1 t11 _ A5.out).mono ?_
      rintro e w8 ⟨rfl, hb⟩; refine ⟨_, rfl, ?_⟩; have n0_ := zA (zAD HB.out hb); clear HB; have HB := n0_; clear n0_; (try clear hb); refine hK.out _ _ (((HB.out.cell (zB w _ hw12_0)).trans hw12_0)) (fun hHeld => ?_); clear hK K; refine wzN 17 ?_
      refine pure_ (i := 6) (N := some 18) (v := ?_) (a' := ?_) (bA 7 127) rfl rfl (by kernel_rfl) (fun _ _ _ h => h) (Or.inl ⟨by rfl, ?_⟩) ?_ ?_; rotate_left
      ·intro w'
       go_simp
       with_reducible rfl
      rotate_left
      ·simp only [Act.put, zC, zD, zE, i64_w]
       rfl
      refine done_ (by kernel_rfl) ?_
      try go_wp2
      go_roundg k1
      case measure => have := HK1.out; omega
      case rel => exact ⟨(wrap64 (x1_1 + 1)), (wrap64 (x5_1 + 1)), rfl, rfl, H', ⟨by have := HK1.out; omega⟩, ⟨HB.out⟩⟩
     ·rw [if_neg c6] at H
      have c6b0 : ((rdOf ByteArray.empty l0 x5_1).toList == t11.toList) = false := beq_eq_false_iff_ne.mpr c6; have c6b1 : ((rdOf ByteArray.empty l0 x5_1).toList != t11.toList) = true := bne_iff_ne.mpr c6; obtain rfl := yM H
      try go_wp2
      have n0_ := zA (zG HB.out); clear HB; have HB := n0_; clear n0_; have p12 : 0 ≤ (x5_1 : Int) := zW (by assumption); have q12 : x5_1 < (l0.length : Int) := zW (by assumption); obtain ⟨ad12, e12, hx12_0⟩ := Kd.at_string HR0.out x5_1 p12 q12; have hw12_0 := hx12_0
      cases e12
      replace hx12_0 := (HB.out.cell (zB w _ hx12_0)).trans hx12_0; replace p12 := eq_true p12; replace q12 := eq_true q12; refine start_ (n := 7) (S := fun w' => w'.cell? (ad12.add (x5_1).toNat) = some (.string (rdOf ByteArray.empty l0 x5_1))) (ds := []) (bA 7 0) (by kernel_rfl) rfl rfl (((HB.out.cell (zB w _ hw12_0)).trans hw12_0)) (fun hHeld => ?_); generalize wr.drew = w9 at HB hx12_0 hHeld ⊢; refine pure_ (i := 0) (N := some 12) (v := ?_) (a' := ?_) (bA 7 1) rfl rfl (by kernel_rfl) (fun _ _ _ h => h) (Or.inl ⟨by rfl, ?_⟩) ?_ ?_; rotate_left
      ·intro w'
       go_simp
       with_reducible rfl
      rotate_left
      ·simp only [Act.put, zC, zD, zE, i64_w]
       rfl
      refine pure_ (i := 1) (N := some 13) (v := ?_) (a' := ?_) (bA 7 3) rfl rfl (by kernel_rfl) (fun _ _ _ h => h) (Or.inl ⟨by rfl, ?_⟩) ?_ ?_; rotate_left
      ·intro w'
       go_simp
       with_reducible rfl
      rotate_left
      ·simp only [Act.put, zC, zD, zE, i64_w]
       rfl
      refine pure_ (i := 2) (N := some 14) (v := ?_) (a' := ?_) (bA 7 7) rfl rfl (by kernel_rfl) (fun _ _ _ h => h) (Or.inl ⟨by rfl, ?_⟩) ?_ ?_; rotate_left
      ·intro w'
       go_simp
       with_reducible rfl
      rotate_left
      ·simp only [Act.put, zC, zD, zE, i64_w]
       rfl
      refine pure_ (i := 4) (N := some 16) (v := ?_) (a' := ?_) (bA 7 23) rfl rfl (by kernel_rfl) (fun _ _ _ h => h) (Or.inl ⟨by rfl, ?_⟩) ?_ ?_; rotate_left
      ·intro w'
       go_simp
       with_reducible rfl
      rotate_left
      ·simp only [Act.put, zC, zD, zE, i64_w]
       rfl
      refine take_ (i := 3) (N := some 15) (v := ?_) (a' := ?_) (bA 7 31) rfl rfl (by kernel_rfl) (fun _ _ _ h => h) (Or.inl ⟨by rfl, ?_⟩) hHeld ?_ ?_; rotate_left
      ·intro w' s0
       go_simp
       with_reducible rfl
      rotate_left
      ·simp only [Act.put, zC, zD, zE, i64_w]
       rfl
      refine one_ (i := 5) (N := some 17) (bA 7 63) rfl rfl (by kernel_rfl) (by decide) (fun K hK => ?_); refine goes_ Try.func74 (by kernel_rfl) rfl #[.int .i64 x1_1] (by rfl) rfl rfl (by (try simp only [zAA, zAB, zAC]); first | done | rfl) ?_
      with_reducible refine (laws_markText.calls k1 x1_1 t11 _ A5.out).mono ?_
      rintro e w10 ⟨rfl, hb⟩; refine ⟨_, rfl, ?_⟩; have n0_ := zA (zAD HB.out hb); clear HB; have HB := n0_; clear n0_; (try clear hb); refine hK.out _ _ (((HB.out.cell (zB w _ hw12_0)).trans hw12_0)) (fun hHeld => ?_); clear hK K; refine wzN 17 ?_
      refine pure_ (i := 6) (N := some 18) (v := ?_) (a' := ?_) (bA 7 127) rfl rfl (by kernel_rfl) (fun _ _ _ h => h) (Or.inl ⟨by rfl, ?_⟩) ?_ ?_; rotate_left
      ·intro w'
       go_simp
       with_reducible rfl
      rotate_left
      ·simp only [Act.put, zC, zD, zE, i64_w]
       rfl
      refine done_ (by kernel_rfl) ?_
      try go_wp2
      go_ret; exact ⟨by first | rfl | (simp <;> rfl) | (simp [*] <;> rfl), HB.out⟩
    ·rw [if_neg c4] at H
     exact absurd H (by simp)
   ·rw [if_neg c3] at H
    have c3b0 : decide (x5_1 < (l0.length : Int)) = false := decide_eq_false c3; clear c3; obtain rfl := yM H; go_wp2; go_ret; exact ⟨by first | rfl | (simp <;> rfl) | (simp [*] <;> rfl), HB.out⟩
def spec_l7Range.f (a0 : ByteArray) (a1 : ByteArray) : Option (Bool) := (spec_l5Pair.f a0 (⟨#[]⟩ : ByteArray)).bind fun t10 => (if t10 = true then ((spec_l5Pair.f a1 (⟨#[]⟩ : ByteArray)).bind fun t11 => (if t11 = true then (some (Op.bytesLess a0.toList a1.toList)) else (some false))) else (some false))
theorem spec_l7Range.calls (a0 : ByteArray) (a1 : ByteArray) (r : Bool) (w : World) (h : spec_l7Range.f a0 a1 = some r) :
  Calls Try.prog 41 #[.string a0, .string a1] w fun e w' => e = .returned (.bool r) ∧ Drawn0 w w' := by
 have H : ((spec_l5Pair.f a0 (⟨#[]⟩ : ByteArray)).bind fun t10 => (if t10 = true then ((spec_l5Pair.f a1 (⟨#[]⟩ : ByteArray)).bind fun t11 => (if t11 = true then (some (Op.bytesLess a0.toList a1.toList)) else (some false))) else (some false))) = some r := h; clear h; replace H := zAF H; obtain ⟨t10, A30, H⟩ := H; replace H : (if t10 = true then ((spec_l5Pair.f a1 (⟨#[]⟩ : ByteArray)).bind fun t11 => (if t11 = true then (some (Op.bytesLess a0.toList a1.toList)) else (some false))) else (some false)) = some r := H; have A3 := zA A30; clear A30
 by_cases c4 : t10 = true
 ·subst c4
  have H1 : ((spec_l5Pair.f a1 (⟨#[]⟩ : ByteArray)).bind fun t11 => (if t11 = true then (some (Op.bytesLess a0.toList a1.toList)) else (some false))) = some r := by rw [if_pos rfl] at H; exact H
  clear H; have H := H1; clear H1; replace H := zAF H; obtain ⟨t11, A50, H⟩ := H; replace H : (if t11 = true then (some (Op.bytesLess a0.toList a1.toList)) else (some false)) = some r := H; have A5 := zA A50; clear A50
  by_cases c6 : t11 = true
  ·subst c6
   have H1 : (some (Op.bytesLess a0.toList a1.toList)) = some r := by rw [if_pos rfl] at H; exact H
   clear H; have H := H1; clear H1; obtain rfl := yM H; go_enter Try.func41, Try.ntmps41; go_wp2_with (first | ((with_reducible refine yB (f := 31) rfl ?_); refine goesL_ (some 6) rfl rfl Try.func31 (by kernel_rfl) rfl #[.string a0, .string (⟨#[]⟩ : ByteArray)] rfl (by (try simp only [zAA, zAB, zAC]); first | done | rfl) ?_; (with_reducible refine (spec_l5Pair.calls a0 (⟨#[]⟩ : ByteArray) true _ A3.out).mono ?_); rintro e w' ⟨rfl, ⟨nd, rfl⟩⟩; refine ⟨_, rfl, ?_⟩) | (go_at_call 31; (with_reducible refine (spec_l5Pair.calls a1 (⟨#[]⟩ : ByteArray) true _ A5.out).mono ?_); rintro e w' ⟨rfl, ⟨nd, rfl⟩⟩)); go_ret; exact ⟨by first | rfl | (simp; done) | (simp [*]; done) | (simp [bne]; done), by repeat (first | exact Drawn0.refl _ | apply Drawn0.step)⟩
  ·replace c6 := yO c6
   subst c6; have H1 : (some false) = some r := by rw [if_neg (show ¬ (false = true) by decide)] at H; exact H
   clear H; have H := H1; clear H1; obtain rfl := yM H; go_enter Try.func41, Try.ntmps41; go_wp2_with (first | ((with_reducible refine yB (f := 31) rfl ?_); refine goesL_ (some 6) rfl rfl Try.func31 (by kernel_rfl) rfl #[.string a0, .string (⟨#[]⟩ : ByteArray)] rfl (by (try simp only [zAA, zAB, zAC]); first | done | rfl) ?_; (with_reducible refine (spec_l5Pair.calls a0 (⟨#[]⟩ : ByteArray) true _ A3.out).mono ?_); rintro e w' ⟨rfl, ⟨nd, rfl⟩⟩; refine ⟨_, rfl, ?_⟩) | (go_at_call 31; (with_reducible refine (spec_l5Pair.calls a1 (⟨#[]⟩ : ByteArray) false _ A5.out).mono ?_); rintro e w' ⟨rfl, ⟨nd, rfl⟩⟩)); go_ret; exact ⟨by first | rfl | (simp; done) | (simp [*]; done) | (simp [bne]; done), by repeat (first | exact Drawn0.refl _ | apply Drawn0.step)⟩
 ·replace c4 := yO c4
  subst c4; have H1 : (some false) = some r := by rw [if_neg (show ¬ (false = true) by decide)] at H; exact H
  clear H; have H := H1; clear H1; obtain rfl := yM H; go_enter Try.func41, Try.ntmps41; go_wp2_with (first | ((with_reducible refine yB (f := 31) rfl ?_); refine goesL_ (some 6) rfl rfl Try.func31 (by kernel_rfl) rfl #[.string a0, .string (⟨#[]⟩ : ByteArray)] rfl (by (try simp only [zAA, zAB, zAC]); first | done | rfl) ?_; (with_reducible refine (spec_l5Pair.calls a0 (⟨#[]⟩ : ByteArray) false _ A3.out).mono ?_); rintro e w' ⟨rfl, ⟨nd, rfl⟩⟩; refine ⟨_, rfl, ?_⟩)); go_ret; exact ⟨by first | rfl | (simp; done) | (simp [*]; done) | (simp [bne]; done), by repeat (first | exact Drawn0.refl _ | apply Drawn0.step)⟩
def spec_l7Needs.f (l0_0 : List ByteArray) (l0_1 : List ByteArray) (l0_2 : List ByteArray) (a0_3 : Int) (a1 : Int) (a2 : ByteArray) (a3 : ByteArray) : Option (Bool) := if a1 = 0 then (if a1 = (l0_0.length : Int) then (some true) else (if 0 ≤ a1 then (if a1 < (l0_0.length : Int) then (some (Op.bytesLess a2.toList ((rdOf ByteArray.empty l0_0 a1).toList))) else (none)) else (none))) else (if 0 ≤ (wrap64 (a1 - 1)) then (if (wrap64 (a1 - 1)) < (l0_0.length : Int) then (if (Op.bytesLess ((rdOf ByteArray.empty l0_0 (wrap64 (a1 - 1))).toList) a3.toList) = true then (if a1 = (l0_0.length : Int) then (some true) else (if 0 ≤ a1 then (if a1 < (l0_0.length : Int) then (some (Op.bytesLess a2.toList ((rdOf ByteArray.empty l0_0 a1).toList))) else (none)) else (none))) else (some false)) else (none)) else (none))
theorem spec_l7Needs.calls (A0_0 : Option Addr) (c0_0 : Nat) (l0_0 : List ByteArray) (A0_1 : Option Addr) (c0_1 : Nat) (l0_1 : List ByteArray) (A0_2 : Option Addr) (c0_2 : Nat) (l0_2 : List ByteArray) (a0_3 : Int) (a1 : Int) (a2 : ByteArray) (a3 : ByteArray) (r : Bool) (w : World) (hr0_0 : Kd.C Kd.string w A0_0 l0_0.length l0_0) (hc0_0 : l0_0.length ≤ c0_0) (hr0_1 : Kd.C Kd.string w A0_1 l0_1.length l0_1) (hc0_1 : l0_1.length ≤ c0_1) (hr0_2 : Kd.C Kd.string w A0_2 l0_2.length l0_2) (hc0_2 : l0_2.length ≤ c0_2) (h : spec_l7Needs.f l0_0 l0_1 l0_2 a0_3 a1 a2 a3 = some r) :
  Calls Try.prog 75 #[.agg #[.slice A0_0 l0_0.length c0_0, .slice A0_1 l0_1.length c0_1, .slice A0_2 l0_2.length c0_2, .int .i64 a0_3], .int .i64 a1, .string a2, .string a3] w fun e w' => e = .returned (.bool r) ∧ Below w.heap.size w w' := by
 have hu43 := Try.underlying43; have HR0_0 := zA hr0_0; have HC0_0 := zA hc0_0; clear hr0_0 hc0_0; have HR0_1 := zA hr0_1; have HC0_1 := zA hc0_1; clear hr0_1 hc0_1; have HR0_2 := zA hr0_2; have HC0_2 := zA hc0_2; clear hr0_2 hc0_2; have HB := zA (Below.refl w.heap.size w); have hgtr_ : ∀ (x y : List UInt8), (!Op.bytesLess x y && !(x == y)) = Op.bytesLess y x := gtr_eq; have H : (if a1 = 0 then (if a1 = (l0_0.length : Int) then (some true) else (if 0 ≤ a1 then (if a1 < (l0_0.length : Int) then (some (Op.bytesLess a2.toList ((rdOf ByteArray.empty l0_0 a1).toList))) else (none)) else (none))) else (if 0 ≤ (wrap64 (a1 - 1)) then (if (wrap64 (a1 - 1)) < (l0_0.length : Int) then (if (Op.bytesLess ((rdOf ByteArray.empty l0_0 (wrap64 (a1 - 1))).toList) a3.toList) = true then (if a1 = (l0_0.length : Int) then (some true) else (if 0 ≤ a1 then (if a1 < (l0_0.length : Int) then (some (Op.bytesLess a2.toList ((rdOf ByteArray.empty l0_0 a1).toList))) else (none)) else (none))) else (some false)) else (none)) else (none))) = some r := h; clear h
 by_cases c5 : a1 = 0
 ·rw [if_pos c5] at H
  have c5b0 : (a1 == 0) = true := beq_iff_eq.mpr c5; have c5b1 : (a1 != 0) = false := bne_eq_false_iff_eq.mpr c5; clear c5
  by_cases c6 : a1 = (l0_0.length : Int)
  ·rw [if_pos c6] at H
   have c6b0 : (a1 == (l0_0.length : Int)) = true := beq_iff_eq.mpr c6; have c6b1 : (a1 != (l0_0.length : Int)) = false := bne_eq_false_iff_eq.mpr c6; clear c6; obtain rfl := yM H; go_enter Try.func75, Try.ntmps75; go_wp2_with (first | ((with_reducible refine gate_dst (N := 4) rfl ?_); (try (refine gate_guard (by rfl) ?_; dsimp only)); refine box_event ?hg (N := 4) ?hd (cs := #[.slice A0_0 l0_0.length c0_0, .slice A0_1 l0_1.length c0_1, .slice A0_2 l0_2.length c0_2, .int .i64 a0_3]) (t := 43) ?hr ?_; (case hd => rfl); (case hg => rfl); (case hr => first | (go_simp; done) | (go_simp; rfl)); intro gb26 hg w7 hbox hb; have n0_ := zA (zAD HB.out hb); have n1_ := zA (hbox); have n2_ := zA ((by rw [hg]; exact (zAE HB.out) : w.heap.size ≤ gb26)); have n3_ := zA ((by rw [hg]; exact (zAE HB.out) : w.heap.size ≤ gb26)); clear HB; have HB := n0_; have BK26 := n1_; have GW26 := n2_; have GE26 := n3_; clear n0_ n1_ n2_ n3_; clear hb hbox hg; have hcz8_0 := yL BK26.out 0 (.slice A0_0 l0_0.length c0_0) rfl; have hcz8_1 := yL BK26.out 1 (.slice A0_1 l0_1.length c0_1) rfl; have hcz8_2 := yL BK26.out 2 (.slice A0_2 l0_2.length c0_2) rfl; have hcz8_3 := yL BK26.out 3 (.int .i64 a0_3) rfl; have hfz8_0 := zO BK26.out 0; have hfz8_1 := zO BK26.out 1; have hfz8_2 := zO BK26.out 2; have hfz8_3 := zO BK26.out 3)); go_ret; exact ⟨by first | rfl | (simp <;> rfl) | (simp [*] <;> rfl), HB.out⟩
  ·rw [if_neg c6] at H
   have c6b0 : (a1 == (l0_0.length : Int)) = false := beq_eq_false_iff_ne.mpr c6; have c6b1 : (a1 != (l0_0.length : Int)) = true := bne_iff_ne.mpr c6
   by_cases c9 : 0 ≤ a1
   ·rw [if_pos c9] at H
    have c9b0 : decide (0 ≤ a1) = true := zX c9; clear c9
    by_cases c10 : a1 < (l0_0.length : Int)
    ·rw [if_pos c10] at H
     have c10b0 : decide (a1 < (l0_0.length : Int)) = true := zX c10; clear c10; obtain rfl := yM H; go_enter Try.func75, Try.ntmps75; go_wp2_with (first | ((with_reducible refine gate_dst (N := 4) rfl ?_); (try (refine gate_guard (by rfl) ?_; dsimp only)); refine box_event ?hg (N := 4) ?hd (cs := #[.slice A0_0 l0_0.length c0_0, .slice A0_1 l0_1.length c0_1, .slice A0_2 l0_2.length c0_2, .int .i64 a0_3]) (t := 43) ?hr ?_; (case hd => rfl); (case hg => rfl); (case hr => first | (go_simp; done) | (go_simp; rfl)); intro gb26 hg w11 hbox hb; have n0_ := zA (zAD HB.out hb); have n1_ := zA (hbox); have n2_ := zA ((by rw [hg]; exact (zAE HB.out) : w.heap.size ≤ gb26)); have n3_ := zA ((by rw [hg]; exact (zAE HB.out) : w.heap.size ≤ gb26)); clear HB; have HB := n0_; have BK26 := n1_; have GW26 := n2_; have GE26 := n3_; clear n0_ n1_ n2_ n3_; clear hb hbox hg; have hcz12_0 := yL BK26.out 0 (.slice A0_0 l0_0.length c0_0) rfl; have hcz12_1 := yL BK26.out 1 (.slice A0_1 l0_1.length c0_1) rfl; have hcz12_2 := yL BK26.out 2 (.slice A0_2 l0_2.length c0_2) rfl; have hcz12_3 := yL BK26.out 3 (.int .i64 a0_3) rfl; have hfz12_0 := zO BK26.out 0; have hfz12_1 := zO BK26.out 1; have hfz12_2 := zO BK26.out 2; have hfz12_3 := zO BK26.out 3; have p27 : 0 ≤ (a1 : Int) := zW (by assumption); have q27 : a1 < (l0_0.length : Int) := zW (by assumption); obtain ⟨ad27, e27, hx27_0⟩ := Kd.at_string HR0_0.out a1 p27 q27; cases e27; replace hx27_0 := (HB.out.cell (zB w _ hx27_0)).trans hx27_0; replace p27 := eq_true p27; replace q27 := eq_true q27)); go_ret; exact ⟨by first | rfl | (simp <;> rfl) | (simp [*] <;> rfl), HB.out⟩
    ·rw [if_neg c10] at H
     exact absurd H (by simp)
   ·rw [if_neg c9] at H
    exact absurd H (by simp)
 ·rw [if_neg c5] at H
  have c5b0 : (a1 == 0) = false := beq_eq_false_iff_ne.mpr c5; have c5b1 : (a1 != 0) = true := bne_iff_ne.mpr c5; obtain ⟨ji13, hji13⟩ : ∃ j_ : Int, (wrap64 (a1 - 1)) = j_ := ⟨_, rfl⟩; replace H : (if 0 ≤ (ji13) then (if (ji13) < (l0_0.length : Int) then (if (Op.bytesLess ((rdOf ByteArray.empty l0_0 (ji13)).toList) a3.toList) = true then (if a1 = (l0_0.length : Int) then (some true) else (if 0 ≤ a1 then (if a1 < (l0_0.length : Int) then (some (Op.bytesLess a2.toList ((rdOf ByteArray.empty l0_0 a1).toList))) else (none)) else (none))) else (some false)) else (none)) else (none)) = some r := by first | (rw [hji13] at H; exact H) | (simp only [hji13] at H ⊢; exact H)
  have hji13w : (IntKind.i64.wrap (a1 - 1)) = ji13 := (i64_w _).trans hji13
  by_cases c14 : 0 ≤ (ji13)
  ·rw [if_pos c14] at H
   have c14b0 : decide (0 ≤ (ji13)) = true := zX c14; clear c14
   by_cases c15 : (ji13) < (l0_0.length : Int)
   ·rw [if_pos c15] at H
    have c15b0 : decide ((ji13) < (l0_0.length : Int)) = true := zX c15; clear c15
    by_cases c16 : (Op.bytesLess ((rdOf ByteArray.empty l0_0 (ji13)).toList) a3.toList) = true
    ·rw [if_pos c16] at H
     have c16b0 : (Op.bytesLess ((rdOf ByteArray.empty l0_0 (ji13)).toList) a3.toList) = true := c16; clear c16
     by_cases c17 : a1 = (l0_0.length : Int)
     ·rw [if_pos c17] at H
      have c17b0 : (a1 == (l0_0.length : Int)) = true := beq_iff_eq.mpr c17; have c17b1 : (a1 != (l0_0.length : Int)) = false := bne_eq_false_iff_eq.mpr c17; clear c17; obtain rfl := yM H; go_enter Try.func75, Try.ntmps75; go_wp2_with (first | ((with_reducible refine gate_dst (N := 4) rfl ?_); (try (refine gate_guard (by rfl) ?_; dsimp only)); refine box_event ?hg (N := 4) ?hd (cs := #[.slice A0_0 l0_0.length c0_0, .slice A0_1 l0_1.length c0_1, .slice A0_2 l0_2.length c0_2, .int .i64 a0_3]) (t := 43) ?hr ?_; (case hd => rfl); (case hg => rfl); (case hr => first | (go_simp; done) | (go_simp; rfl)); intro gb26 hg w18 hbox hb; have n0_ := zA (zAD HB.out hb); have n1_ := zA (hbox); have n2_ := zA ((by rw [hg]; exact (zAE HB.out) : w.heap.size ≤ gb26)); have n3_ := zA ((by rw [hg]; exact (zAE HB.out) : w.heap.size ≤ gb26)); clear HB; have HB := n0_; have BK26 := n1_; have GW26 := n2_; have GE26 := n3_; clear n0_ n1_ n2_ n3_; clear hb hbox hg; have hcz19_0 := yL BK26.out 0 (.slice A0_0 l0_0.length c0_0) rfl; have hcz19_1 := yL BK26.out 1 (.slice A0_1 l0_1.length c0_1) rfl; have hcz19_2 := yL BK26.out 2 (.slice A0_2 l0_2.length c0_2) rfl; have hcz19_3 := yL BK26.out 3 (.int .i64 a0_3) rfl; have hfz19_0 := zO BK26.out 0; have hfz19_1 := zO BK26.out 1; have hfz19_2 := zO BK26.out 2; have hfz19_3 := zO BK26.out 3; have p28 : 0 ≤ ((ji13) : Int) := zW (by assumption); have q28 : (ji13) < (l0_0.length : Int) := zW (by assumption); obtain ⟨ad28, e28, hx28_0⟩ := Kd.at_string HR0_0.out (ji13) p28 q28; cases e28; replace hx28_0 := (HB.out.cell (zB w _ hx28_0)).trans hx28_0; replace p28 := eq_true p28; replace q28 := eq_true q28)); go_ret; exact ⟨by first | rfl | (simp [errW_none, errW_some] <;> rfl) | (simp only [← hji13]; first | rfl | (simp [errW_none, errW_some] <;> rfl)) | (simp [*, errW_none, errW_some] <;> rfl), HB.out⟩
     ·rw [if_neg c17] at H
      have c17b0 : (a1 == (l0_0.length : Int)) = false := beq_eq_false_iff_ne.mpr c17; have c17b1 : (a1 != (l0_0.length : Int)) = true := bne_iff_ne.mpr c17
      by_cases c20 : 0 ≤ a1
      ·rw [if_pos c20] at H
       have c20b0 : decide (0 ≤ a1) = true := zX c20; clear c20
       by_cases c21 : a1 < (l0_0.length : Int)
       ·rw [if_pos c21] at H
        have c21b0 : decide (a1 < (l0_0.length : Int)) = true := zX c21; clear c21; obtain rfl := yM H; go_enter Try.func75, Try.ntmps75; go_wp2_with (first | ((with_reducible refine gate_dst (N := 4) rfl ?_); (try (refine gate_guard (by rfl) ?_; dsimp only)); refine box_event ?hg (N := 4) ?hd (cs := #[.slice A0_0 l0_0.length c0_0, .slice A0_1 l0_1.length c0_1, .slice A0_2 l0_2.length c0_2, .int .i64 a0_3]) (t := 43) ?hr ?_; (case hd => rfl); (case hg => rfl); (case hr => first | (go_simp; done) | (go_simp; rfl)); intro gb26 hg w22 hbox hb; have n0_ := zA (zAD HB.out hb); have n1_ := zA (hbox); have n2_ := zA ((by rw [hg]; exact (zAE HB.out) : w.heap.size ≤ gb26)); have n3_ := zA ((by rw [hg]; exact (zAE HB.out) : w.heap.size ≤ gb26)); clear HB; have HB := n0_; have BK26 := n1_; have GW26 := n2_; have GE26 := n3_; clear n0_ n1_ n2_ n3_; clear hb hbox hg; have hcz23_0 := yL BK26.out 0 (.slice A0_0 l0_0.length c0_0) rfl; have hcz23_1 := yL BK26.out 1 (.slice A0_1 l0_1.length c0_1) rfl; have hcz23_2 := yL BK26.out 2 (.slice A0_2 l0_2.length c0_2) rfl; have hcz23_3 := yL BK26.out 3 (.int .i64 a0_3) rfl; have hfz23_0 := zO BK26.out 0; have hfz23_1 := zO BK26.out 1; have hfz23_2 := zO BK26.out 2; have hfz23_3 := zO BK26.out 3; have p28 : 0 ≤ ((ji13) : Int) := zW (by assumption); have q28 : (ji13) < (l0_0.length : Int) := zW (by assumption); obtain ⟨ad28, e28, hx28_0⟩ := Kd.at_string HR0_0.out (ji13) p28 q28; cases e28; replace hx28_0 := (HB.out.cell (zB w _ hx28_0)).trans hx28_0; replace p28 := eq_true p28; replace q28 := eq_true q28; have p29 : 0 ≤ (a1 : Int) := zW (by assumption); have q29 : a1 < (l0_0.length : Int) := zW (by assumption); obtain ⟨ad29, e29, hx29_0⟩ := Kd.at_string HR0_0.out a1 p29 q29; obtain rfl : ad28 = ad29 := (by injection e29); replace hx29_0 := (HB.out.cell (zB w _ hx29_0)).trans hx29_0; replace p29 := eq_true p29; replace q29 := eq_true q29)); go_ret; exact ⟨by first | rfl | (simp [errW_none, errW_some] <;> rfl) | (simp only [← hji13]; first | rfl | (simp [errW_none, errW_some] <;> rfl)) | (simp [*, errW_none, errW_some] <;> rfl), HB.out⟩
       ·rw [if_neg c21] at H
        exact absurd H (by simp)
      ·rw [if_neg c20] at H
       exact absurd H (by simp)
    ·rw [if_neg c16] at H
     have c16b0 : (Op.bytesLess ((rdOf ByteArray.empty l0_0 (ji13)).toList) a3.toList) = false := by simpa using c16
     clear c16; obtain rfl := yM H; go_enter Try.func75, Try.ntmps75; go_wp2_with (first | ((with_reducible refine gate_dst (N := 4) rfl ?_); (try (refine gate_guard (by rfl) ?_; dsimp only)); refine box_event ?hg (N := 4) ?hd (cs := #[.slice A0_0 l0_0.length c0_0, .slice A0_1 l0_1.length c0_1, .slice A0_2 l0_2.length c0_2, .int .i64 a0_3]) (t := 43) ?hr ?_; (case hd => rfl); (case hg => rfl); (case hr => first | (go_simp; done) | (go_simp; rfl)); intro gb26 hg w24 hbox hb; have n0_ := zA (zAD HB.out hb); have n1_ := zA (hbox); have n2_ := zA ((by rw [hg]; exact (zAE HB.out) : w.heap.size ≤ gb26)); have n3_ := zA ((by rw [hg]; exact (zAE HB.out) : w.heap.size ≤ gb26)); clear HB; have HB := n0_; have BK26 := n1_; have GW26 := n2_; have GE26 := n3_; clear n0_ n1_ n2_ n3_; clear hb hbox hg; have hcz25_0 := yL BK26.out 0 (.slice A0_0 l0_0.length c0_0) rfl; have hcz25_1 := yL BK26.out 1 (.slice A0_1 l0_1.length c0_1) rfl; have hcz25_2 := yL BK26.out 2 (.slice A0_2 l0_2.length c0_2) rfl; have hcz25_3 := yL BK26.out 3 (.int .i64 a0_3) rfl; have hfz25_0 := zO BK26.out 0; have hfz25_1 := zO BK26.out 1; have hfz25_2 := zO BK26.out 2; have hfz25_3 := zO BK26.out 3; have p28 : 0 ≤ ((ji13) : Int) := zW (by assumption); have q28 : (ji13) < (l0_0.length : Int) := zW (by assumption); obtain ⟨ad28, e28, hx28_0⟩ := Kd.at_string HR0_0.out (ji13) p28 q28; cases e28; replace hx28_0 := (HB.out.cell (zB w _ hx28_0)).trans hx28_0; replace p28 := eq_true p28; replace q28 := eq_true q28)); go_ret; exact ⟨by first | rfl | (simp [errW_none, errW_some] <;> rfl) | (simp only [← hji13]; first | rfl | (simp [errW_none, errW_some] <;> rfl)) | (simp [*, errW_none, errW_some] <;> rfl), HB.out⟩
   ·rw [if_neg c15] at H
    exact absurd H (by simp)
  ·rw [if_neg c14] at H
   exact absurd H (by simp)
def impl_isRange.f (a0 : ByteArray) (a1 : ByteArray) : Option (Bool) := (impl_isKey.f a0).bind fun t10 => (if t10 = true then ((impl_isKey.f a1).bind fun t11 => (if t11 = true then (some (Op.bytesLess a0.toList a1.toList)) else (some false))) else (some false))
theorem impl_isRange.calls (a0 : ByteArray) (a1 : ByteArray) (r : Bool) (w : World) (h : impl_isRange.f a0 a1 = some r) :
  Calls Try.prog 43 #[.string a0, .string a1] w fun e w' => e = .returned (.bool r) ∧ Drawn0 w w' := by
 have H : ((impl_isKey.f a0).bind fun t10 => (if t10 = true then ((impl_isKey.f a1).bind fun t11 => (if t11 = true then (some (Op.bytesLess a0.toList a1.toList)) else (some false))) else (some false))) = some r := h; clear h; replace H := zAF H; obtain ⟨t10, A30, H⟩ := H; replace H : (if t10 = true then ((impl_isKey.f a1).bind fun t11 => (if t11 = true then (some (Op.bytesLess a0.toList a1.toList)) else (some false))) else (some false)) = some r := H; have A3 := zA A30; clear A30
 by_cases c4 : t10 = true
 ·subst c4
  have H1 : ((impl_isKey.f a1).bind fun t11 => (if t11 = true then (some (Op.bytesLess a0.toList a1.toList)) else (some false))) = some r := by rw [if_pos rfl] at H; exact H
  clear H; have H := H1; clear H1; replace H := zAF H; obtain ⟨t11, A50, H⟩ := H; replace H : (if t11 = true then (some (Op.bytesLess a0.toList a1.toList)) else (some false)) = some r := H; have A5 := zA A50; clear A50
  by_cases c6 : t11 = true
  ·subst c6
   have H1 : (some (Op.bytesLess a0.toList a1.toList)) = some r := by rw [if_pos rfl] at H; exact H
   clear H; have H := H1; clear H1; obtain rfl := yM H; go_enter Try.func43, Try.ntmps43; go_wp2_with (first | ((with_reducible refine yB (f := 33) rfl ?_); refine goesL_ (some 6) rfl rfl Try.func33 (by kernel_rfl) rfl #[.string a0] rfl (by (try simp only [zAA, zAB, zAC]); first | done | rfl) ?_; (with_reducible refine (impl_isKey.calls a0 true _ A3.out).mono ?_); rintro e w' ⟨rfl, ⟨nd, rfl⟩⟩; refine ⟨_, rfl, ?_⟩) | (go_at_call 33; (with_reducible refine (impl_isKey.calls a1 true _ A5.out).mono ?_); rintro e w' ⟨rfl, ⟨nd, rfl⟩⟩)); go_ret; exact ⟨by first | rfl | (simp; done) | (simp [*]; done) | (simp [bne]; done), by repeat (first | exact Drawn0.refl _ | apply Drawn0.step)⟩
  ·replace c6 := yO c6
   subst c6; have H1 : (some false) = some r := by rw [if_neg (show ¬ (false = true) by decide)] at H; exact H
   clear H; have H := H1; clear H1; obtain rfl := yM H; go_enter Try.func43, Try.ntmps43; go_wp2_with (first | ((with_reducible refine yB (f := 33) rfl ?_); refine goesL_ (some 6) rfl rfl Try.func33 (by kernel_rfl) rfl #[.string a0] rfl (by (try simp only [zAA, zAB, zAC]); first | done | rfl) ?_; (with_reducible refine (impl_isKey.calls a0 true _ A3.out).mono ?_); rintro e w' ⟨rfl, ⟨nd, rfl⟩⟩; refine ⟨_, rfl, ?_⟩) | (go_at_call 33; (with_reducible refine (impl_isKey.calls a1 false _ A5.out).mono ?_); rintro e w' ⟨rfl, ⟨nd, rfl⟩⟩)); go_ret; exact ⟨by first | rfl | (simp; done) | (simp [*]; done) | (simp [bne]; done), by repeat (first | exact Drawn0.refl _ | apply Drawn0.step)⟩
 ·replace c4 := yO c4
  subst c4; have H1 : (some false) = some r := by rw [if_neg (show ¬ (false = true) by decide)] at H; exact H
  clear H; have H := H1; clear H1; obtain rfl := yM H; go_enter Try.func43, Try.ntmps43; go_wp2_with (first | ((with_reducible refine yB (f := 33) rfl ?_); refine goesL_ (some 6) rfl rfl Try.func33 (by kernel_rfl) rfl #[.string a0] rfl (by (try simp only [zAA, zAB, zAC]); first | done | rfl) ?_; (with_reducible refine (impl_isKey.calls a0 false _ A3.out).mono ?_); rintro e w' ⟨rfl, ⟨nd, rfl⟩⟩; refine ⟨_, rfl, ?_⟩)); go_ret; exact ⟨by first | rfl | (simp; done) | (simp [*]; done) | (simp [bne]; done), by repeat (first | exact Drawn0.refl _ | apply Drawn0.step)⟩
def impl_needsKid.f (l0_0 : List ByteArray) (l0_1 : List ByteArray) (l0_2 : List ByteArray) (a0_3 : Int) (a1 : Int) (a2 : ByteArray) (a3 : ByteArray) : Option (Bool) := if a1 = 0 then (if a1 = (l0_0.length : Int) then (some true) else (if 0 ≤ a1 then (if a1 < (l0_0.length : Int) then (some (Op.bytesLess a2.toList ((rdOf ByteArray.empty l0_0 a1).toList))) else (none)) else (none))) else (if 0 ≤ (wrap64 (a1 - 1)) then (if (wrap64 (a1 - 1)) < (l0_0.length : Int) then (if (Op.bytesLess ((rdOf ByteArray.empty l0_0 (wrap64 (a1 - 1))).toList) a3.toList) = true then (if a1 = (l0_0.length : Int) then (some true) else (if 0 ≤ a1 then (if a1 < (l0_0.length : Int) then (some (Op.bytesLess a2.toList ((rdOf ByteArray.empty l0_0 a1).toList))) else (none)) else (none))) else (some false)) else (none)) else (none))
theorem impl_needsKid.calls (A0_0 : Option Addr) (c0_0 : Nat) (l0_0 : List ByteArray) (A0_1 : Option Addr) (c0_1 : Nat) (l0_1 : List ByteArray) (A0_2 : Option Addr) (c0_2 : Nat) (l0_2 : List ByteArray) (a0_3 : Int) (a1 : Int) (a2 : ByteArray) (a3 : ByteArray) (r : Bool) (w : World) (hr0_0 : Kd.C Kd.string w A0_0 l0_0.length l0_0) (hc0_0 : l0_0.length ≤ c0_0) (hr0_1 : Kd.C Kd.string w A0_1 l0_1.length l0_1) (hc0_1 : l0_1.length ≤ c0_1) (hr0_2 : Kd.C Kd.string w A0_2 l0_2.length l0_2) (hc0_2 : l0_2.length ≤ c0_2) (h : impl_needsKid.f l0_0 l0_1 l0_2 a0_3 a1 a2 a3 = some r) :
  Calls Try.prog 94 #[.agg #[.slice A0_0 l0_0.length c0_0, .slice A0_1 l0_1.length c0_1, .slice A0_2 l0_2.length c0_2, .int .i64 a0_3], .int .i64 a1, .string a2, .string a3] w fun e w' => e = .returned (.bool r) ∧ Below w.heap.size w w' := by
 have hu43 := Try.underlying43; have HR0_0 := zA hr0_0; have HC0_0 := zA hc0_0; clear hr0_0 hc0_0; have HR0_1 := zA hr0_1; have HC0_1 := zA hc0_1; clear hr0_1 hc0_1; have HR0_2 := zA hr0_2; have HC0_2 := zA hc0_2; clear hr0_2 hc0_2; have HB := zA (Below.refl w.heap.size w); have hgtr_ : ∀ (x y : List UInt8), (!Op.bytesLess x y && !(x == y)) = Op.bytesLess y x := gtr_eq; have H : (if a1 = 0 then (if a1 = (l0_0.length : Int) then (some true) else (if 0 ≤ a1 then (if a1 < (l0_0.length : Int) then (some (Op.bytesLess a2.toList ((rdOf ByteArray.empty l0_0 a1).toList))) else (none)) else (none))) else (if 0 ≤ (wrap64 (a1 - 1)) then (if (wrap64 (a1 - 1)) < (l0_0.length : Int) then (if (Op.bytesLess ((rdOf ByteArray.empty l0_0 (wrap64 (a1 - 1))).toList) a3.toList) = true then (if a1 = (l0_0.length : Int) then (some true) else (if 0 ≤ a1 then (if a1 < (l0_0.length : Int) then (some (Op.bytesLess a2.toList ((rdOf ByteArray.empty l0_0 a1).toList))) else (none)) else (none))) else (some false)) else (none)) else (none))) = some r := h; clear h
 by_cases c5 : a1 = 0
 ·rw [if_pos c5] at H
  have c5b0 : (a1 == 0) = true := beq_iff_eq.mpr c5; have c5b1 : (a1 != 0) = false := bne_eq_false_iff_eq.mpr c5; clear c5
  by_cases c6 : a1 = (l0_0.length : Int)
  ·rw [if_pos c6] at H
   have c6b0 : (a1 == (l0_0.length : Int)) = true := beq_iff_eq.mpr c6; have c6b1 : (a1 != (l0_0.length : Int)) = false := bne_eq_false_iff_eq.mpr c6; clear c6; obtain rfl := yM H; go_enter Try.func94, Try.ntmps94; go_wp2_with (first | ((with_reducible refine gate_dst (N := 4) rfl ?_); (try (refine gate_guard (by rfl) ?_; dsimp only)); refine box_event ?hg (N := 4) ?hd (cs := #[.slice A0_0 l0_0.length c0_0, .slice A0_1 l0_1.length c0_1, .slice A0_2 l0_2.length c0_2, .int .i64 a0_3]) (t := 43) ?hr ?_; (case hd => rfl); (case hg => rfl); (case hr => first | (go_simp; done) | (go_simp; rfl)); intro gb26 hg w7 hbox hb; have n0_ := zA (zAD HB.out hb); have n1_ := zA (hbox); have n2_ := zA ((by rw [hg]; exact (zAE HB.out) : w.heap.size ≤ gb26)); have n3_ := zA ((by rw [hg]; exact (zAE HB.out) : w.heap.size ≤ gb26)); clear HB; have HB := n0_; have BK26 := n1_; have GW26 := n2_; have GE26 := n3_; clear n0_ n1_ n2_ n3_; clear hb hbox hg; have hcz8_0 := yL BK26.out 0 (.slice A0_0 l0_0.length c0_0) rfl; have hcz8_1 := yL BK26.out 1 (.slice A0_1 l0_1.length c0_1) rfl; have hcz8_2 := yL BK26.out 2 (.slice A0_2 l0_2.length c0_2) rfl; have hcz8_3 := yL BK26.out 3 (.int .i64 a0_3) rfl; have hfz8_0 := zO BK26.out 0; have hfz8_1 := zO BK26.out 1; have hfz8_2 := zO BK26.out 2; have hfz8_3 := zO BK26.out 3)); go_ret; exact ⟨by first | rfl | (simp <;> rfl) | (simp [*] <;> rfl), HB.out⟩
  ·rw [if_neg c6] at H
   have c6b0 : (a1 == (l0_0.length : Int)) = false := beq_eq_false_iff_ne.mpr c6; have c6b1 : (a1 != (l0_0.length : Int)) = true := bne_iff_ne.mpr c6
   by_cases c9 : 0 ≤ a1
   ·rw [if_pos c9] at H
    have c9b0 : decide (0 ≤ a1) = true := zX c9; clear c9
    by_cases c10 : a1 < (l0_0.length : Int)
    ·rw [if_pos c10] at H
     have c10b0 : decide (a1 < (l0_0.length : Int)) = true := zX c10; clear c10; obtain rfl := yM H; go_enter Try.func94, Try.ntmps94; go_wp2_with (first | ((with_reducible refine gate_dst (N := 4) rfl ?_); (try (refine gate_guard (by rfl) ?_; dsimp only)); refine box_event ?hg (N := 4) ?hd (cs := #[.slice A0_0 l0_0.length c0_0, .slice A0_1 l0_1.length c0_1, .slice A0_2 l0_2.length c0_2, .int .i64 a0_3]) (t := 43) ?hr ?_; (case hd => rfl); (case hg => rfl); (case hr => first | (go_simp; done) | (go_simp; rfl)); intro gb26 hg w11 hbox hb; have n0_ := zA (zAD HB.out hb); have n1_ := zA (hbox); have n2_ := zA ((by rw [hg]; exact (zAE HB.out) : w.heap.size ≤ gb26)); have n3_ := zA ((by rw [hg]; exact (zAE HB.out) : w.heap.size ≤ gb26)); clear HB; have HB := n0_; have BK26 := n1_; have GW26 := n2_; have GE26 := n3_; clear n0_ n1_ n2_ n3_; clear hb hbox hg; have hcz12_0 := yL BK26.out 0 (.slice A0_0 l0_0.length c0_0) rfl; have hcz12_1 := yL BK26.out 1 (.slice A0_1 l0_1.length c0_1) rfl; have hcz12_2 := yL BK26.out 2 (.slice A0_2 l0_2.length c0_2) rfl; have hcz12_3 := yL BK26.out 3 (.int .i64 a0_3) rfl; have hfz12_0 := zO BK26.out 0; have hfz12_1 := zO BK26.out 1; have hfz12_2 := zO BK26.out 2; have hfz12_3 := zO BK26.out 3; have p27 : 0 ≤ (a1 : Int) := zW (by assumption); have q27 : a1 < (l0_0.length : Int) := zW (by assumption); obtain ⟨ad27, e27, hx27_0⟩ := Kd.at_string HR0_0.out a1 p27 q27; cases e27; replace hx27_0 := (HB.out.cell (zB w _ hx27_0)).trans hx27_0; replace p27 := eq_true p27; replace q27 := eq_true q27)); go_ret; exact ⟨by first | rfl | (simp <;> rfl) | (simp [*] <;> rfl), HB.out⟩
    ·rw [if_neg c10] at H
     exact absurd H (by simp)
   ·rw [if_neg c9] at H
    exact absurd H (by simp)
 ·rw [if_neg c5] at H
  have c5b0 : (a1 == 0) = false := beq_eq_false_iff_ne.mpr c5; have c5b1 : (a1 != 0) = true := bne_iff_ne.mpr c5; obtain ⟨ji13, hji13⟩ : ∃ j_ : Int, (wrap64 (a1 - 1)) = j_ := ⟨_, rfl⟩; replace H : (if 0 ≤ (ji13) then (if (ji13) < (l0_0.length : Int) then (if (Op.bytesLess ((rdOf ByteArray.empty l0_0 (ji13)).toList) a3.toList) = true then (if a1 = (l0_0.length : Int) then (some true) else (if 0 ≤ a1 then (if a1 < (l0_0.length : Int) then (some (Op.bytesLess a2.toList ((rdOf ByteArray.empty l0_0 a1).toList))) else (none)) else (none))) else (some false)) else (none)) else (none)) = some r := by first | (rw [hji13] at H; exact H) | (simp only [hji13] at H ⊢; exact H)
  have hji13w : (IntKind.i64.wrap (a1 - 1)) = ji13 := (i64_w _).trans hji13
  by_cases c14 : 0 ≤ (ji13)
  ·rw [if_pos c14] at H
   have c14b0 : decide (0 ≤ (ji13)) = true := zX c14; clear c14
   by_cases c15 : (ji13) < (l0_0.length : Int)
   ·rw [if_pos c15] at H
    have c15b0 : decide ((ji13) < (l0_0.length : Int)) = true := zX c15; clear c15
    by_cases c16 : (Op.bytesLess ((rdOf ByteArray.empty l0_0 (ji13)).toList) a3.toList) = true
    ·rw [if_pos c16] at H
     have c16b0 : (Op.bytesLess ((rdOf ByteArray.empty l0_0 (ji13)).toList) a3.toList) = true := c16; clear c16
     by_cases c17 : a1 = (l0_0.length : Int)
     ·rw [if_pos c17] at H
      have c17b0 : (a1 == (l0_0.length : Int)) = true := beq_iff_eq.mpr c17; have c17b1 : (a1 != (l0_0.length : Int)) = false := bne_eq_false_iff_eq.mpr c17; clear c17; obtain rfl := yM H; go_enter Try.func94, Try.ntmps94; go_wp2_with (first | ((with_reducible refine gate_dst (N := 4) rfl ?_); (try (refine gate_guard (by rfl) ?_; dsimp only)); refine box_event ?hg (N := 4) ?hd (cs := #[.slice A0_0 l0_0.length c0_0, .slice A0_1 l0_1.length c0_1, .slice A0_2 l0_2.length c0_2, .int .i64 a0_3]) (t := 43) ?hr ?_; (case hd => rfl); (case hg => rfl); (case hr => first | (go_simp; done) | (go_simp; rfl)); intro gb26 hg w18 hbox hb; have n0_ := zA (zAD HB.out hb); have n1_ := zA (hbox); have n2_ := zA ((by rw [hg]; exact (zAE HB.out) : w.heap.size ≤ gb26)); have n3_ := zA ((by rw [hg]; exact (zAE HB.out) : w.heap.size ≤ gb26)); clear HB; have HB := n0_; have BK26 := n1_; have GW26 := n2_; have GE26 := n3_; clear n0_ n1_ n2_ n3_; clear hb hbox hg; have hcz19_0 := yL BK26.out 0 (.slice A0_0 l0_0.length c0_0) rfl; have hcz19_1 := yL BK26.out 1 (.slice A0_1 l0_1.length c0_1) rfl; have hcz19_2 := yL BK26.out 2 (.slice A0_2 l0_2.length c0_2) rfl; have hcz19_3 := yL BK26.out 3 (.int .i64 a0_3) rfl; have hfz19_0 := zO BK26.out 0; have hfz19_1 := zO BK26.out 1; have hfz19_2 := zO BK26.out 2; have hfz19_3 := zO BK26.out 3; have p28 : 0 ≤ ((ji13) : Int) := zW (by assumption); have q28 : (ji13) < (l0_0.length : Int) := zW (by assumption); obtain ⟨ad28, e28, hx28_0⟩ := Kd.at_string HR0_0.out (ji13) p28 q28; cases e28; replace hx28_0 := (HB.out.cell (zB w _ hx28_0)).trans hx28_0; replace p28 := eq_true p28; replace q28 := eq_true q28)); go_ret; exact ⟨by first | rfl | (simp [errW_none, errW_some] <;> rfl) | (simp only [← hji13]; first | rfl | (simp [errW_none, errW_some] <;> rfl)) | (simp [*, errW_none, errW_some] <;> rfl), HB.out⟩
     ·rw [if_neg c17] at H
      have c17b0 : (a1 == (l0_0.length : Int)) = false := beq_eq_false_iff_ne.mpr c17; have c17b1 : (a1 != (l0_0.length : Int)) = true := bne_iff_ne.mpr c17
      by_cases c20 : 0 ≤ a1
      ·rw [if_pos c20] at H
       have c20b0 : decide (0 ≤ a1) = true := zX c20; clear c20
       by_cases c21 : a1 < (l0_0.length : Int)
       ·rw [if_pos c21] at H
        have c21b0 : decide (a1 < (l0_0.length : Int)) = true := zX c21; clear c21; obtain rfl := yM H; go_enter Try.func94, Try.ntmps94; go_wp2_with (first | ((with_reducible refine gate_dst (N := 4) rfl ?_); (try (refine gate_guard (by rfl) ?_; dsimp only)); refine box_event ?hg (N := 4) ?hd (cs := #[.slice A0_0 l0_0.length c0_0, .slice A0_1 l0_1.length c0_1, .slice A0_2 l0_2.length c0_2, .int .i64 a0_3]) (t := 43) ?hr ?_; (case hd => rfl); (case hg => rfl); (case hr => first | (go_simp; done) | (go_simp; rfl)); intro gb26 hg w22 hbox hb; have n0_ := zA (zAD HB.out hb); have n1_ := zA (hbox); have n2_ := zA ((by rw [hg]; exact (zAE HB.out) : w.heap.size ≤ gb26)); have n3_ := zA ((by rw [hg]; exact (zAE HB.out) : w.heap.size ≤ gb26)); clear HB; have HB := n0_; have BK26 := n1_; have GW26 := n2_; have GE26 := n3_; clear n0_ n1_ n2_ n3_; clear hb hbox hg; have hcz23_0 := yL BK26.out 0 (.slice A0_0 l0_0.length c0_0) rfl; have hcz23_1 := yL BK26.out 1 (.slice A0_1 l0_1.length c0_1) rfl; have hcz23_2 := yL BK26.out 2 (.slice A0_2 l0_2.length c0_2) rfl; have hcz23_3 := yL BK26.out 3 (.int .i64 a0_3) rfl; have hfz23_0 := zO BK26.out 0; have hfz23_1 := zO BK26.out 1; have hfz23_2 := zO BK26.out 2; have hfz23_3 := zO BK26.out 3; have p28 : 0 ≤ ((ji13) : Int) := zW (by assumption); have q28 : (ji13) < (l0_0.length : Int) := zW (by assumption); obtain ⟨ad28, e28, hx28_0⟩ := Kd.at_string HR0_0.out (ji13) p28 q28; cases e28; replace hx28_0 := (HB.out.cell (zB w _ hx28_0)).trans hx28_0; replace p28 := eq_true p28; replace q28 := eq_true q28; have p29 : 0 ≤ (a1 : Int) := zW (by assumption); have q29 : a1 < (l0_0.length : Int) := zW (by assumption); obtain ⟨ad29, e29, hx29_0⟩ := Kd.at_string HR0_0.out a1 p29 q29; obtain rfl : ad28 = ad29 := (by injection e29); replace hx29_0 := (HB.out.cell (zB w _ hx29_0)).trans hx29_0; replace p29 := eq_true p29; replace q29 := eq_true q29)); go_ret; exact ⟨by first | rfl | (simp [errW_none, errW_some] <;> rfl) | (simp only [← hji13]; first | rfl | (simp [errW_none, errW_some] <;> rfl)) | (simp [*, errW_none, errW_some] <;> rfl), HB.out⟩
       ·rw [if_neg c21] at H
        exact absurd H (by simp)
      ·rw [if_neg c20] at H
       exact absurd H (by simp)
    ·rw [if_neg c16] at H
     have c16b0 : (Op.bytesLess ((rdOf ByteArray.empty l0_0 (ji13)).toList) a3.toList) = false := by simpa using c16
     clear c16; obtain rfl := yM H; go_enter Try.func94, Try.ntmps94; go_wp2_with (first | ((with_reducible refine gate_dst (N := 4) rfl ?_); (try (refine gate_guard (by rfl) ?_; dsimp only)); refine box_event ?hg (N := 4) ?hd (cs := #[.slice A0_0 l0_0.length c0_0, .slice A0_1 l0_1.length c0_1, .slice A0_2 l0_2.length c0_2, .int .i64 a0_3]) (t := 43) ?hr ?_; (case hd => rfl); (case hg => rfl); (case hr => first | (go_simp; done) | (go_simp; rfl)); intro gb26 hg w24 hbox hb; have n0_ := zA (zAD HB.out hb); have n1_ := zA (hbox); have n2_ := zA ((by rw [hg]; exact (zAE HB.out) : w.heap.size ≤ gb26)); have n3_ := zA ((by rw [hg]; exact (zAE HB.out) : w.heap.size ≤ gb26)); clear HB; have HB := n0_; have BK26 := n1_; have GW26 := n2_; have GE26 := n3_; clear n0_ n1_ n2_ n3_; clear hb hbox hg; have hcz25_0 := yL BK26.out 0 (.slice A0_0 l0_0.length c0_0) rfl; have hcz25_1 := yL BK26.out 1 (.slice A0_1 l0_1.length c0_1) rfl; have hcz25_2 := yL BK26.out 2 (.slice A0_2 l0_2.length c0_2) rfl; have hcz25_3 := yL BK26.out 3 (.int .i64 a0_3) rfl; have hfz25_0 := zO BK26.out 0; have hfz25_1 := zO BK26.out 1; have hfz25_2 := zO BK26.out 2; have hfz25_3 := zO BK26.out 3; have p28 : 0 ≤ ((ji13) : Int) := zW (by assumption); have q28 : (ji13) < (l0_0.length : Int) := zW (by assumption); obtain ⟨ad28, e28, hx28_0⟩ := Kd.at_string HR0_0.out (ji13) p28 q28; cases e28; replace hx28_0 := (HB.out.cell (zB w _ hx28_0)).trans hx28_0; replace p28 := eq_true p28; replace q28 := eq_true q28)); go_ret; exact ⟨by first | rfl | (simp [errW_none, errW_some] <;> rfl) | (simp only [← hji13]; first | rfl | (simp [errW_none, errW_some] <;> rfl)) | (simp [*, errW_none, errW_some] <;> rfl), HB.out⟩
   ·rw [if_neg c15] at H
    exact absurd H (by simp)
  ·rw [if_neg c14] at H
   exact absurd H (by simp)
def impl_needed.l0 : Nat → ByteArray → ByteArray → List Int → Int → Int → List ByteArray → List ByteArray → List ByteArray → Int → Option (List Int)
 | 0, _, _, _, _, _, _, _, _, _ => none
 | k + 1, x1, x2, x7, x11, x12, x10, x13, x14, x15 => if x12 < x11 then ((impl_needsKid.f x10 x13 x14 x15 x12 x1 x2).bind fun t16 => (if t16 = true then (if x7.length < 17592186044416 then (impl_needed.l0 k x1 x2 (x7 ++ [x12]) x11 (wrap64 (x12 + 1)) x10 x13 x14 x15) else (none)) else (impl_needed.l0 k x1 x2 x7 x11 (wrap64 (x12 + 1)) x10 x13 x14 x15))) else (some x7)
def impl_needed.f (k : Nat) (l0_0 : List ByteArray) (l0_1 : List ByteArray) (l0_2 : List ByteArray) (a0_3 : Int) (a1 : ByteArray) (a2 : ByteArray) : Option (List Int) := impl_needed.l0 k a1 a2 ([] : List Int) (l0_2.length : Int) 0 l0_0 l0_1 l0_2 a0_3
theorem impl_needed.calls (k : Nat) (A0_0 : Option Addr) (c0_0 : Nat) (l0_0 : List ByteArray) (A0_1 : Option Addr) (c0_1 : Nat) (l0_1 : List ByteArray) (A0_2 : Option Addr) (c0_2 : Nat) (l0_2 : List ByteArray) (a0_3 : Int) (a1 : ByteArray) (a2 : ByteArray) (r : List Int) (w : World) (hr0_0 : Kd.C Kd.string w A0_0 l0_0.length l0_0) (hc0_0 : l0_0.length ≤ c0_0) (hr0_1 : Kd.C Kd.string w A0_1 l0_1.length l0_1) (hc0_1 : l0_1.length ≤ c0_1) (hr0_2 : Kd.C Kd.string w A0_2 l0_2.length l0_2) (hc0_2 : l0_2.length ≤ c0_2) (h : impl_needed.f k l0_0 l0_1 l0_2 a0_3 a1 a2 = some r) :
  Calls Try.prog 76 #[.agg #[.slice A0_0 l0_0.length c0_0, .slice A0_1 l0_1.length c0_1, .slice A0_2 l0_2.length c0_2, .int .i64 a0_3], .string a1, .string a2] w fun e w' => ∃ v0_ : Value, e = .returned (v0_) ∧ Kd.R (Kd.int .i64) 3 w' w.heap.size (fun _ => True) v0_ r ∧ Below w.heap.size w w' := by
 have hu43 := Try.underlying43; have HR0_0 := zA hr0_0; have HC0_0 := zA hc0_0; clear hr0_0 hc0_0; have HR0_1 := zA hr0_1; have HC0_1 := zA hc0_1; clear hr0_1 hc0_1; have HR0_2 := zA hr0_2; have HC0_2 := zA hc0_2; clear hr0_2 hc0_2; have HB := zA (Below.refl w.heap.size w); have H : (impl_needed.l0 k a1 a2 ([] : List Int) (l0_2.length : Int) 0 l0_0 l0_1 l0_2 a0_3) = some r := h; clear h; have H' := zA H; clear H; go_enter Try.func76, Try.ntmps76; go_wp2_with (first | ((with_reducible refine gate_dst (N := 3) rfl ?_); refine box_event ?hg (N := 3) ?hd (cs := #[.slice A0_0 l0_0.length c0_0, .slice A0_1 l0_1.length c0_1, .slice A0_2 l0_2.length c0_2, .int .i64 a0_3]) (t := 43) ?hr ?_; (case hd => rfl); (case hg => rfl); (case hr => first | (go_simp; done) | (go_simp; rfl)); intro gb15 hg w4 hbox hb; have n0_ := zA (zAD HB.out hb); have n1_ := zA (hbox); have n2_ := zA ((by rw [hg]; exact (zAE HB.out) : w.heap.size ≤ gb15)); have n3_ := zA ((by rw [hg]; exact (zAE HB.out) : w.heap.size ≤ gb15)); clear HB; have HB := n0_; have BK15 := n1_; have GW15 := n2_; have GE15 := n3_; clear n0_ n1_ n2_ n3_; clear hb hbox hg; have hcz5_0 := yL BK15.out 0 (.slice A0_0 l0_0.length c0_0) rfl; have hcz5_1 := yL BK15.out 1 (.slice A0_1 l0_1.length c0_1) rfl; have hcz5_2 := yL BK15.out 2 (.slice A0_2 l0_2.length c0_2) rfl; have hcz5_3 := yL BK15.out 3 (.int .i64 a0_3) rfl; have hfz5_0 := zO BK15.out 0; have hfz5_1 := zO BK15.out 1; have hfz5_2 := zO BK15.out 2; have hfz5_3 := zO BK15.out 3)); go_loopg [7, 12] k (fun kq v7 v12 w' => ∃ (x7_1 : List Int) (x12_1 : Int), v12 = .int .i64 x12_1 ∧ Aside0 (impl_needed.l0 kq a1 a2 x7_1 (l0_2.length : Int) x12_1 l0_0 l0_1 l0_2 a0_3 = some r) ∧ Aside0 (kq ≤ k) ∧ Aside0 (Kd.R (Kd.int .i64) 3 w' w.heap.size (fun _ => True) v7 x7_1) ∧ Aside0 (w'.heap[gb15]? = some (.cells #[(.slice A0_0 l0_0.length c0_0), (.slice A0_1 l0_1.length c0_1), (.slice A0_2 l0_2.length c0_2), .int .i64 a0_3] 43 (0, 0))) ∧ Aside0 (Below w.heap.size w w'))
 case atStart => exact ⟨(([] : List Int)), (0), rfl, H', ⟨Nat.le_refl _⟩, ⟨by first | exact Kd.R_nil _ _ _ _ _ | exact Kd.N_nil _ _ _ _ _ | exact Kd.V_nil _ _ _ _ _ | exact Kd.Q_nil _ _ _ _ _ | exact Kd.S_nil _ _ _ _ _⟩, ⟨by (with_reducible repeat (first | refine zL ?_ _ | refine zN ?_ | refine zM ?_ _)); exact BK15.out⟩, ⟨HB.out⟩⟩
 case round =>
  clear H'
  try clear p2
  try clear hcz5_0
  try clear hcz5_1
  try clear hcz5_2
  try clear hcz5_3
  try clear hfz5_0
  try clear hfz5_1
  try clear hfz5_2
  try clear hfz5_3
  obtain ⟨x7_1, x12_1, rfl, HA, HK1, HO_7, BK15, HB⟩ := hrel
  cases gk with
  | zero => exact absurd HA.out (by simp [impl_needed.l0])
  | succ k1 =>
   have H := HA.out; clear HA; simp only [impl_needed.l0] at H
   by_cases c6 : x12_1 < (l0_2.length : Int)
   ·rw [if_pos c6] at H
    have c6b0 : decide (x12_1 < (l0_2.length : Int)) = true := zX c6; clear c6; replace H := zAF H; obtain ⟨t16, A70, H⟩ := H; replace H : (if t16 = true then (if x7_1.length < 17592186044416 then (impl_needed.l0 k1 a1 a2 (x7_1 ++ [x12_1]) (l0_2.length : Int) (wrap64 (x12_1 + 1)) l0_0 l0_1 l0_2 a0_3) else (none)) else (impl_needed.l0 k1 a1 a2 x7_1 (l0_2.length : Int) (wrap64 (x12_1 + 1)) l0_0 l0_1 l0_2 a0_3)) = some r := H; have A7 := zA A70; clear A70
    by_cases c8 : t16 = true
    ·subst c8
     have H1 : (if x7_1.length < 17592186044416 then (impl_needed.l0 k1 a1 a2 (x7_1 ++ [x12_1]) (l0_2.length : Int) (wrap64 (x12_1 + 1)) l0_0 l0_1 l0_2 a0_3) else (none)) = some r := by rw [if_pos rfl] at H; exact H
     clear H; have H := H1; clear H1
     by_cases c9 : x7_1.length < 17592186044416
     ·rw [if_pos c9] at H
      have LMc9 := zA c9; clear c9; obtain ⟨y17, hy17⟩ : ∃ y_ : List Int, y_ = (x7_1 ++ [x12_1]) := ⟨_, rfl⟩; replace H : (impl_needed.l0 k1 a1 a2 y17 (l0_2.length : Int) (wrap64 (x12_1 + 1)) l0_0 l0_1 l0_2 a0_3) = some r := by first | (rw [hy17]; with_reducible exact H) | (have H2_ := (Option.bind_some _ _).symm.trans H; rw [hy17]; with_reducible exact H2_) | (have H2_ := (Option.bind_some _ _).symm.trans H; with_reducible exact H2_) | with_reducible exact H | (rw [hy17]; exact H) | exact H
      have Ny17 := zA hy17; clear hy17; have H' := zA H; clear H; have hcz10_0 := yL BK15.out 0 (.slice A0_0 l0_0.length c0_0) rfl; have hcz10_1 := yL BK15.out 1 (.slice A0_1 l0_1.length c0_1) rfl; have hcz10_2 := yL BK15.out 2 (.slice A0_2 l0_2.length c0_2) rfl; have hcz10_3 := yL BK15.out 3 (.int .i64 a0_3) rfl; have hfz10_0 := zO BK15.out 0; have hfz10_1 := zO BK15.out 1; have hfz10_2 := zO BK15.out 2; have hfz10_3 := zO BK15.out 3; go_wp2_with (first | ((with_reducible refine yB (f := 94) rfl ?_); refine goesL_ (some 19) rfl rfl Try.func94 (by kernel_rfl) rfl #[.agg #[.slice A0_0 l0_0.length c0_0, .slice A0_1 l0_1.length c0_1, .slice A0_2 l0_2.length c0_2, .int .i64 a0_3], .int .i64 x12_1, .string a1, .string a2] rfl (by (try simp only [zAA, zAB, zAC]); first | done | rfl | (simp only [zZ, zY]; rfl)) ?_; (with_reducible refine (impl_needsKid.calls _ _ l0_0 _ _ l0_1 _ _ l0_2 a0_3 x12_1 a1 a2 true _ ?side1 ?side2 ?side3 ?side4 ?side5 ?side6 A7.out).mono ?_); (case side1 => exact (yN HR0_0.out HB.out)); (case side2 => exact HC0_0.out); (case side3 => exact (yN HR0_1.out HB.out)); (case side4 => exact HC0_1.out); (case side5 => exact (yN HR0_2.out HB.out)); (case side6 => exact HC0_2.out); rintro e w11 ⟨rfl, hb⟩; refine ⟨_, rfl, ?_⟩; have n0_ := zA (Kd.R_below HO_7.out hb); have n1_ := zA (yE BK15.out hb); have n2_ := zA (zAD HB.out hb); clear HO_7; clear BK15; clear HB; have HO_7 := n0_; have BK15 := n1_; have HB := n2_; clear n0_ n1_ n2_; (try clear hb)) | ((with_reducible refine gate_builtin (b := .append) (xs := #[.tmp 20, .tmp 22]) rfl ?_); at_builtin; refine Kd.R_append (Kd.int .i64) (w0 := w) w.heap.size rfl (.tmp 20) (.tmp 22) 44 3 (.int .i64 0) 8 rfl Try.underlying44 info3 rfl (by decide) (by omega) u7 x7_1 x12_1 [.int .i64 x12_1] (fun _ => True) (fun _ => False) rfl rfl ?aP (fun _ hk => hk.elim) ?aF ?aO ?aB ?aS ?aL ?_; (case aP => exact rfl); (case aB => exact HB.out); (case aF => exact (fun _ _ => trivial)); (case aO => exact HO_7.out); (case aS => exact (zAE HB.out)); (case aL => have := LMc9.out; omega); intro v18 w12 ho hb hg hat; rw [← Ny17.out] at ho; have n0_ := zA (blk_grown BK15.out hg (Kd.R_ne HO_7.out BK15.out (by decide))); have n1_ := zA (hb); have n2_ := zA (ho); clear BK15; clear HB; clear HO_7; have BK15 := n0_; have HB := n1_; have HO19 := n2_; clear n0_ n1_ n2_; clear ho hb hg hat)); go_roundg k1
      case measure => have := HK1.out; omega
      case rel => exact ⟨(y17), (wrap64 (x12_1 + 1)), rfl, H', ⟨by have := HK1.out; omega⟩, ⟨by (with_reducible repeat first | apply zQ | apply zR | apply zS); exact HO19.out⟩, ⟨by (with_reducible repeat (first | refine zL ?_ _ | refine zN ?_ | refine zM ?_ _)); exact BK15.out⟩, ⟨HB.out⟩⟩
     ·rw [if_neg c9] at H
      exact absurd H (by simp)
    ·replace c8 := yO c8
     subst c8; have H1 : (impl_needed.l0 k1 a1 a2 x7_1 (l0_2.length : Int) (wrap64 (x12_1 + 1)) l0_0 l0_1 l0_2 a0_3) = some r := by rw [if_neg (show ¬ (false = true) by decide)] at H; exact H
     clear H; have H := H1; clear H1; have H' := zA H; clear H; have hcz13_0 := yL BK15.out 0 (.slice A0_0 l0_0.length c0_0) rfl; have hcz13_1 := yL BK15.out 1 (.slice A0_1 l0_1.length c0_1) rfl; have hcz13_2 := yL BK15.out 2 (.slice A0_2 l0_2.length c0_2) rfl; have hcz13_3 := yL BK15.out 3 (.int .i64 a0_3) rfl; have hfz13_0 := zO BK15.out 0; have hfz13_1 := zO BK15.out 1; have hfz13_2 := zO BK15.out 2; have hfz13_3 := zO BK15.out 3; go_wp2_with (first | ((with_reducible refine yB (f := 94) rfl ?_); refine goesL_ (some 19) rfl rfl Try.func94 (by kernel_rfl) rfl #[.agg #[.slice A0_0 l0_0.length c0_0, .slice A0_1 l0_1.length c0_1, .slice A0_2 l0_2.length c0_2, .int .i64 a0_3], .int .i64 x12_1, .string a1, .string a2] rfl (by (try simp only [zAA, zAB, zAC]); first | done | rfl | (simp only [zZ, zY]; rfl)) ?_; (with_reducible refine (impl_needsKid.calls _ _ l0_0 _ _ l0_1 _ _ l0_2 a0_3 x12_1 a1 a2 false _ ?side1 ?side2 ?side3 ?side4 ?side5 ?side6 A7.out).mono ?_); (case side1 => exact (yN HR0_0.out HB.out)); (case side2 => exact HC0_0.out); (case side3 => exact (yN HR0_1.out HB.out)); (case side4 => exact HC0_1.out); (case side5 => exact (yN HR0_2.out HB.out)); (case side6 => exact HC0_2.out); rintro e w14 ⟨rfl, hb⟩; refine ⟨_, rfl, ?_⟩; have n0_ := zA (Kd.R_below HO_7.out hb); have n1_ := zA (yE BK15.out hb); have n2_ := zA (zAD HB.out hb); clear HO_7; clear BK15; clear HB; have HO_7 := n0_; have BK15 := n1_; have HB := n2_; clear n0_ n1_ n2_; (try clear hb))); go_roundg k1
     case measure => have := HK1.out; omega
     case rel => exact ⟨(x7_1), (wrap64 (x12_1 + 1)), rfl, H', ⟨by have := HK1.out; omega⟩, ⟨by (with_reducible repeat first | apply zQ | apply zR | apply zS); exact HO_7.out⟩, ⟨by (with_reducible repeat (first | refine zL ?_ _ | refine zN ?_ | refine zM ?_ _)); exact BK15.out⟩, ⟨HB.out⟩⟩
   ·rw [if_neg c6] at H
    have c6b0 : decide (x12_1 < (l0_2.length : Int)) = false := decide_eq_false c6; clear c6; obtain rfl := yM H; go_wp2; go_ret; exact ⟨_, by first | rfl | (simp <;> rfl) | (simp [*] <;> rfl), by (with_reducible repeat first | apply zQ | apply zR | apply zS); exact HO_7.out, HB.out⟩
def laws_markShown.f (k : Nat) (l0_0 : List ByteArray) (l0_1 : List ByteArray) (l0_2 : List ByteArray) (a0_3 : Int) (a1 : Int) : Option (Int × List ByteArray × List ByteArray × List ByteArray) := (laws_markStringS.f k l0_0 a1).bind fun bt10 => ((laws_markStringS.f k l0_1 bt10.1).bind fun bt11 => ((laws_markStringS.f k l0_2 bt11.1).bind fun bt12 => (some (bt12.1, bt10.2, bt11.2, bt12.2))))
theorem laws_markShown.calls (k : Nat) (P0_0_ : Nat → Prop) (u9000_ : Value) (l0_0 : List ByteArray) (P0_1_ : Nat → Prop) (u9001_ : Value) (l0_1 : List ByteArray) (P0_2_ : Nat → Prop) (u9002_ : Value) (l0_2 : List ByteArray) (a0_3 : Int) (a1 : Int) (r1 : Int) (r2 : List ByteArray) (r3 : List ByteArray) (r4 : List ByteArray) (w0 w : World) (hB : Below w0.heap.size w0 w) (ho0_0 : Kd.R Kd.string 9 w w0.heap.size P0_0_ u9000_ l0_0) (hp0_0_0_1 : ∀ k_, P0_0_ k_ → ¬ P0_1_ k_) (hp0_0_0_2 : ∀ k_, P0_0_ k_ → ¬ P0_2_ k_) (ho0_1 : Kd.R Kd.string 9 w w0.heap.size P0_1_ u9001_ l0_1) (hp0_1_0_0 : ∀ k_, P0_1_ k_ → ¬ P0_0_ k_) (hp0_1_0_2 : ∀ k_, P0_1_ k_ → ¬ P0_2_ k_) (ho0_2 : Kd.R Kd.string 9 w w0.heap.size P0_2_ u9002_ l0_2) (hp0_2_0_0 : ∀ k_, P0_2_ k_ → ¬ P0_0_ k_) (hp0_2_0_1 : ∀ k_, P0_2_ k_ → ¬ P0_1_ k_) (h : laws_markShown.f k l0_0 l0_1 l0_2 a0_3 a1 = some (r1, r2, r3, r4)) :
  Calls Try.prog 47 #[.agg #[u9000_, u9001_, u9002_, .int .i64 a0_3], .int .i64 a1] w fun e w' => e = .returned (.int .i64 r1) ∧ Kd.R Kd.string 9 w' w0.heap.size (fun k_ => ((P0_0_ k_ ∨ P0_1_ k_ ∨ P0_2_ k_) ∨ w.heap.size ≤ k_)) u9000_ r2 ∧ Kd.R Kd.string 9 w' w0.heap.size (fun k_ => ((P0_0_ k_ ∨ P0_1_ k_ ∨ P0_2_ k_) ∨ w.heap.size ≤ k_)) u9001_ r3 ∧ Kd.R Kd.string 9 w' w0.heap.size (fun k_ => ((P0_0_ k_ ∨ P0_1_ k_ ∨ P0_2_ k_) ∨ w.heap.size ≤ k_)) u9002_ r4 ∧ Below w0.heap.size w0 w' ∧ Kept w w' (fun k_ => P0_0_ k_ ∨ P0_1_ k_ ∨ P0_2_ k_) := by
 have hu43 := Try.underlying43; have HO0_0 := zA (show Kd.R Kd.string 9 w w0.heap.size (fun k_ => ((P0_0_ k_ ∨ P0_1_ k_ ∨ P0_2_ k_) ∨ w.heap.size ≤ k_) ∧ some k_ ≠ (u9001_ : Value).ownBlock ∧ some k_ ≠ (u9002_ : Value).ownBlock) u9000_ l0_0 from yC ho0_0 (fun k_ hk => ⟨(.inl (.inl hk)), fun e_ => hp0_0_0_1 k_ hk (ho0_1.1 k_ e_.symm), fun e_ => hp0_0_0_2 k_ hk (ho0_2.1 k_ e_.symm)⟩)); have HO0_1 := zA (show Kd.R Kd.string 9 w w0.heap.size (fun k_ => ((P0_0_ k_ ∨ P0_1_ k_ ∨ P0_2_ k_) ∨ w.heap.size ≤ k_) ∧ some k_ ≠ (u9000_ : Value).ownBlock ∧ some k_ ≠ (u9002_ : Value).ownBlock) u9001_ l0_1 from yC ho0_1 (fun k_ hk => ⟨(.inl (.inr (.inl hk))), fun e_ => hp0_1_0_0 k_ hk (ho0_0.1 k_ e_.symm), fun e_ => hp0_1_0_2 k_ hk (ho0_2.1 k_ e_.symm)⟩)); have HO0_2 := zA (show Kd.R Kd.string 9 w w0.heap.size (fun k_ => ((P0_0_ k_ ∨ P0_1_ k_ ∨ P0_2_ k_) ∨ w.heap.size ≤ k_) ∧ some k_ ≠ (u9000_ : Value).ownBlock ∧ some k_ ≠ (u9001_ : Value).ownBlock) u9002_ l0_2 from yC ho0_2 (fun k_ hk => ⟨(.inl (.inr (.inr hk))), fun e_ => hp0_2_0_0 k_ hk (ho0_0.1 k_ e_.symm), fun e_ => hp0_2_0_1 k_ hk (ho0_1.1 k_ e_.symm)⟩)); have HK := zA (Kept.refl w (fun k_ => P0_0_ k_ ∨ P0_1_ k_ ∨ P0_2_ k_)); have HW0 := zA hB.size; have HB := zA hB; clear hB; have H : ((laws_markStringS.f k l0_0 a1).bind fun bt16 => ((laws_markStringS.f k l0_1 bt16.1).bind fun bt17 => ((laws_markStringS.f k l0_2 bt17.1).bind fun bt18 => (some (bt18.1, bt16.2, bt17.2, bt18.2))))) = some (r1, r2, r3, r4) := h; clear h; replace H := zAF H; obtain ⟨⟨t16, t19⟩, A30, H⟩ := H; replace H : ((laws_markStringS.f k l0_1 t16).bind fun bt17 => ((laws_markStringS.f k l0_2 bt17.1).bind fun bt18 => (some (bt18.1, t19, bt17.2, bt18.2)))) = some (r1, r2, r3, r4) := H; have A3 := zA A30; clear A30; replace H := zAF H; obtain ⟨⟨t17, t20⟩, A40, H⟩ := H; replace H : ((laws_markStringS.f k l0_2 t17).bind fun bt18 => (some (bt18.1, t19, t20, bt18.2))) = some (r1, r2, r3, r4) := H; have A4 := zA A40; clear A40; replace H := zAF H; obtain ⟨⟨t18, t21⟩, A50, H⟩ := H; replace H : (some (t18, t19, t20, t21)) = some (r1, r2, r3, r4) := H; have A5 := zA A50; clear A50; simp only [Option.some.injEq, Prod.mk.injEq] at H; obtain ⟨rfl, rfl, rfl, rfl⟩ := H; obtain ⟨Ao6, co6, eo6⟩ := Kd.R_slice HO0_0.out; subst eo6; obtain ⟨Ao7, co7, eo7⟩ := Kd.R_slice HO0_1.out; subst eo7; obtain ⟨Ao8, co8, eo8⟩ := Kd.R_slice HO0_2.out; subst eo8; go_enter Try.func47, Try.ntmps47; go_wp2_with (first | ((with_reducible refine gate_dst (N := 2) rfl ?_); refine box_event ?hg (N := 2) ?hd (cs := #[.slice Ao6 l0_0.length co6, .slice Ao7 l0_1.length co7, .slice Ao8 l0_2.length co8, .int .i64 a0_3]) (t := 43) ?hr ?_; (case hd => rfl); (case hg => rfl); (case hr => first | (go_simp; done) | (go_simp; rfl)); intro gb22 hg w9 hbox hb; have n0_ := zA (Kd.R_below HO0_0.out hb); have n1_ := zA (Kd.R_below HO0_1.out hb); have n2_ := zA (Kd.R_below HO0_2.out hb); have n3_ := zA (Kept.below (S := (fun k_ => P0_0_ k_ ∨ P0_1_ k_ ∨ P0_2_ k_)) HK.out hb); have n4_ := zA (zAD HB.out hb); have n5_ := zA (hbox); have n6_ := zA ((by rw [hg]; exact (by first | exact HK.out.1 | exact (show Kept w _ (fun k_ => P0_0_ k_ ∨ P0_1_ k_ ∨ P0_2_ k_) from HK.out).1) : w.heap.size ≤ gb22)); have n7_ := zA ((by rw [hg]; exact (zAE HB.out) : w0.heap.size ≤ gb22)); clear HO0_0; clear HO0_1; clear HO0_2; clear HK; clear HB; have HO0_0 := n0_; have HO0_1 := n1_; have HO0_2 := n2_; have HK := n3_; have HB := n4_; have BK22 := n5_; have GW22 := n6_; have GE22 := n7_; clear n0_ n1_ n2_ n3_ n4_ n5_ n6_ n7_; clear hb hbox hg; have hcz10_0 := yL BK22.out 0 (.slice Ao6 l0_0.length co6) rfl; have hcz10_1 := yL BK22.out 1 (.slice Ao7 l0_1.length co7) rfl; have hcz10_2 := yL BK22.out 2 (.slice Ao8 l0_2.length co8) rfl; have hcz10_3 := yL BK22.out 3 (.int .i64 a0_3) rfl; have hfz10_0 := zO BK22.out 0; have hfz10_1 := zO BK22.out 1; have hfz10_2 := zO BK22.out 2; have hfz10_3 := zO BK22.out 3) | ((with_reducible refine yB (f := 39) rfl ?_); refine goesL_ (some 8) rfl rfl Try.func39 (by kernel_rfl) rfl #[.slice Ao6 l0_0.length co6, .int .i64 a1] rfl (by (try simp only [zAA, zAB, zAC]); first | done | rfl | (simp only [zZ, zY]; rfl)) ?_; (with_reducible refine (laws_markStringS.calls k (fun k_ => some k_ = (.slice Ao6 l0_0.length co6 : Value).ownBlock) (.slice Ao6 l0_0.length co6) l0_0 a1 t16 t19 w0 _ ?side1 ?side2 A3.out).mono ?_); (case side1 => repeat (first | (with_reducible first | exact HB.out | apply zH | apply zF | apply zG | refine zI ?_ GE22.out) | exact HB.out)); (case side2 => exact Kd.R_tight rfl HO0_0.out); rintro e w11 ⟨rfl, hy0, hb, hkp⟩; refine ⟨_, rfl, ?_⟩; have n0_ := zA (Kd.R_reok rfl hy0 (fun k_ e_ => HO0_0.out.1 k_ e_)); have n1_ := zA (yC (ok' := fun k_ => ((P0_0_ k_ ∨ P0_1_ k_ ∨ P0_2_ k_) ∨ w.heap.size ≤ k_) ∧ some k_ ≠ (.slice Ao6 l0_0.length co6 : Value).ownBlock ∧ some k_ ≠ (.slice Ao8 l0_2.length co8 : Value).ownBlock) (Kd.R_keptB (HO0_1.out) hkp (fun k_ hk_ hs_ => (hk_.2.1) hs_)) (fun k_ hk_ => ⟨hk_.1.1, hk_.1.2.1, hk_.1.2.2⟩)); have n2_ := zA (yC (ok' := fun k_ => ((P0_0_ k_ ∨ P0_1_ k_ ∨ P0_2_ k_) ∨ w.heap.size ≤ k_) ∧ some k_ ≠ (.slice Ao6 l0_0.length co6 : Value).ownBlock ∧ some k_ ≠ (.slice Ao7 l0_1.length co7 : Value).ownBlock) (Kd.R_keptB (HO0_2.out) hkp (fun k_ hk_ hs_ => (hk_.2.1) hs_)) (fun k_ hk_ => ⟨hk_.1.1, hk_.1.2.1, hk_.1.2.2⟩)); have n3_ := zA (blk_kept BK22.out hkp (fun hs_ => (fun e_ => (Kd.R_ne HO0_0.out BK22.out (by decide)) e_) hs_)); have n4_ := zA (Kept.then_ (S := (fun k_ => P0_0_ k_ ∨ P0_1_ k_ ∨ P0_2_ k_)) (by repeat (first | (with_reducible first | exact HK.out | apply Kept.alloc | apply Kept.drewN | apply Kept.drew | refine Kept.setCell ?_ (.inr GW22.out) _) | exact HK.out)) hkp (fun k_ hs_ => (fun e_ => (HO0_0.out.1 k_ e_.symm).1) hs_)); have n5_ := zA (hb); clear HO0_0; clear HO0_1; clear HO0_2; clear BK22; clear HK; clear HB; have HO0_0 := n0_; have HO0_1 := n1_; have HO0_2 := n2_; have BK22 := n3_; have HK := n4_; have HB := n5_; clear n0_ n1_ n2_ n3_ n4_ n5_; (try clear hb); (try clear hkp); (try clear hy0); have hcz12_0 := yL BK22.out 0 (.slice Ao6 l0_0.length co6) rfl; have hcz12_1 := yL BK22.out 1 (.slice Ao7 l0_1.length co7) rfl; have hcz12_2 := yL BK22.out 2 (.slice Ao8 l0_2.length co8) rfl; have hcz12_3 := yL BK22.out 3 (.int .i64 a0_3) rfl; have hfz12_0 := zO BK22.out 0; have hfz12_1 := zO BK22.out 1; have hfz12_2 := zO BK22.out 2; have hfz12_3 := zO BK22.out 3) | ((with_reducible refine yB (f := 39) rfl ?_); refine goesL_ (some 12) rfl rfl Try.func39 (by kernel_rfl) rfl #[.slice Ao7 l0_1.length co7, .int .i64 t16] rfl (by (try simp only [zAA, zAB, zAC]); first | done | rfl | (simp only [zZ, zY]; rfl)) ?_; (with_reducible refine (laws_markStringS.calls k (fun k_ => some k_ = (.slice Ao7 l0_1.length co7 : Value).ownBlock) (.slice Ao7 l0_1.length co7) l0_1 t16 t17 t20 w0 _ ?side1 ?side2 A4.out).mono ?_); (case side1 => repeat (first | (with_reducible first | exact HB.out | apply zH | apply zF | apply zG | refine zI ?_ GE22.out) | exact HB.out)); (case side2 => exact Kd.R_tight rfl HO0_1.out); rintro e w13 ⟨rfl, hy0, hb, hkp⟩; refine ⟨_, rfl, ?_⟩; have n0_ := zA (yC (ok' := fun k_ => ((P0_0_ k_ ∨ P0_1_ k_ ∨ P0_2_ k_) ∨ w.heap.size ≤ k_) ∧ some k_ ≠ (.slice Ao7 l0_1.length co7 : Value).ownBlock ∧ some k_ ≠ (.slice Ao8 l0_2.length co8 : Value).ownBlock) (Kd.R_keptB (HO0_0.out) hkp (fun k_ hk_ hs_ => (hk_.2.1) hs_)) (fun k_ hk_ => ⟨hk_.1.1, hk_.1.2.1, hk_.1.2.2⟩)); have n1_ := zA (Kd.R_reok rfl hy0 (fun k_ e_ => HO0_1.out.1 k_ e_)); have n2_ := zA (yC (ok' := fun k_ => ((P0_0_ k_ ∨ P0_1_ k_ ∨ P0_2_ k_) ∨ w.heap.size ≤ k_) ∧ some k_ ≠ (.slice Ao6 l0_0.length co6 : Value).ownBlock ∧ some k_ ≠ (.slice Ao7 l0_1.length co7 : Value).ownBlock) (Kd.R_keptB (HO0_2.out) hkp (fun k_ hk_ hs_ => (hk_.2.2) hs_)) (fun k_ hk_ => ⟨hk_.1.1, hk_.1.2.1, hk_.1.2.2⟩)); have n3_ := zA (blk_kept BK22.out hkp (fun hs_ => (fun e_ => (Kd.R_ne HO0_1.out BK22.out (by decide)) e_) hs_)); have n4_ := zA (Kept.then_ (S := (fun k_ => P0_0_ k_ ∨ P0_1_ k_ ∨ P0_2_ k_)) (by repeat (first | (with_reducible first | exact HK.out | apply Kept.alloc | apply Kept.drewN | apply Kept.drew | refine Kept.setCell ?_ (.inr GW22.out) _) | exact HK.out)) hkp (fun k_ hs_ => (fun e_ => (HO0_1.out.1 k_ e_.symm).1) hs_)); have n5_ := zA (hb); clear HO0_0; clear HO0_1; clear HO0_2; clear BK22; clear HK; clear HB; have HO0_0 := n0_; have HO0_1 := n1_; have HO0_2 := n2_; have BK22 := n3_; have HK := n4_; have HB := n5_; clear n0_ n1_ n2_ n3_ n4_ n5_; (try clear hb); (try clear hkp); (try clear hy0); have hcz14_0 := yL BK22.out 0 (.slice Ao6 l0_0.length co6) rfl; have hcz14_1 := yL BK22.out 1 (.slice Ao7 l0_1.length co7) rfl; have hcz14_2 := yL BK22.out 2 (.slice Ao8 l0_2.length co8) rfl; have hcz14_3 := yL BK22.out 3 (.int .i64 a0_3) rfl; have hfz14_0 := zO BK22.out 0; have hfz14_1 := zO BK22.out 1; have hfz14_2 := zO BK22.out 2; have hfz14_3 := zO BK22.out 3) | ((with_reducible refine yB (f := 39) rfl ?_); refine goesL_ (some 16) rfl rfl Try.func39 (by kernel_rfl) rfl #[.slice Ao8 l0_2.length co8, .int .i64 t17] rfl (by (try simp only [zAA, zAB, zAC]); first | done | rfl | (simp only [zZ, zY]; rfl)) ?_; (with_reducible refine (laws_markStringS.calls k (fun k_ => some k_ = (.slice Ao8 l0_2.length co8 : Value).ownBlock) (.slice Ao8 l0_2.length co8) l0_2 t17 t18 t21 w0 _ ?side1 ?side2 A5.out).mono ?_); (case side1 => repeat (first | (with_reducible first | exact HB.out | apply zH | apply zF | apply zG | refine zI ?_ GE22.out) | exact HB.out)); (case side2 => exact Kd.R_tight rfl HO0_2.out); rintro e w15 ⟨rfl, hy0, hb, hkp⟩; refine ⟨_, rfl, ?_⟩; have n0_ := zA (yC (ok' := fun k_ => ((P0_0_ k_ ∨ P0_1_ k_ ∨ P0_2_ k_) ∨ w.heap.size ≤ k_) ∧ some k_ ≠ (.slice Ao7 l0_1.length co7 : Value).ownBlock ∧ some k_ ≠ (.slice Ao8 l0_2.length co8 : Value).ownBlock) (Kd.R_keptB (HO0_0.out) hkp (fun k_ hk_ hs_ => (hk_.2.2) hs_)) (fun k_ hk_ => ⟨hk_.1.1, hk_.1.2.1, hk_.1.2.2⟩)); have n1_ := zA (yC (ok' := fun k_ => ((P0_0_ k_ ∨ P0_1_ k_ ∨ P0_2_ k_) ∨ w.heap.size ≤ k_) ∧ some k_ ≠ (.slice Ao6 l0_0.length co6 : Value).ownBlock ∧ some k_ ≠ (.slice Ao8 l0_2.length co8 : Value).ownBlock) (Kd.R_keptB (HO0_1.out) hkp (fun k_ hk_ hs_ => (hk_.2.2) hs_)) (fun k_ hk_ => ⟨hk_.1.1, hk_.1.2.1, hk_.1.2.2⟩)); have n2_ := zA (Kd.R_reok rfl hy0 (fun k_ e_ => HO0_2.out.1 k_ e_)); have n3_ := zA (blk_kept BK22.out hkp (fun hs_ => (fun e_ => (Kd.R_ne HO0_2.out BK22.out (by decide)) e_) hs_)); have n4_ := zA (Kept.then_ (S := (fun k_ => P0_0_ k_ ∨ P0_1_ k_ ∨ P0_2_ k_)) (by repeat (first | (with_reducible first | exact HK.out | apply Kept.alloc | apply Kept.drewN | apply Kept.drew | refine Kept.setCell ?_ (.inr GW22.out) _) | exact HK.out)) hkp (fun k_ hs_ => (fun e_ => (HO0_2.out.1 k_ e_.symm).1) hs_)); have n5_ := zA (hb); clear HO0_0; clear HO0_1; clear HO0_2; clear BK22; clear HK; clear HB; have HO0_0 := n0_; have HO0_1 := n1_; have HO0_2 := n2_; have BK22 := n3_; have HK := n4_; have HB := n5_; clear n0_ n1_ n2_ n3_ n4_ n5_; (try clear hb); (try clear hkp); (try clear hy0)))
 go_ret; exact ⟨by first | rfl | (simp <;> rfl) | (simp [*] <;> rfl), by (with_reducible repeat first | apply zQ | apply zR | apply zS); exact yC HO0_0.out (fun _ hk => hk.1), by (with_reducible repeat first | apply zQ | apply zR | apply zS); exact yC HO0_1.out (fun _ hk => hk.1), by (with_reducible repeat first | apply zQ | apply zR | apply zS); exact yC HO0_2.out (fun _ hk => hk.1), HB.out, by repeat (first | (with_reducible first | exact HK.out | apply Kept.alloc | apply Kept.drewN | apply Kept.drew | refine Kept.setCell ?_ (.inr GW22.out) _) | exact HK.out)⟩
def laws_heldShown.f (k : Nat) (l0_0 : List ByteArray) (l0_1 : List ByteArray) (l0_2 : List ByteArray) (a0_3 : Int) (a1 : Int) : Option (Int) := (laws_heldStringS.f k l0_0 a1).bind fun t10 => (if t10 < 0 then (some (-1)) else ((laws_heldStringS.f k l0_1 t10).bind fun t11 => (if t11 < 0 then (some (-1)) else ((laws_heldStringS.f k l0_2 t11).bind fun t12 => (if t12 < 0 then (some (-1)) else (some t12))))))
theorem laws_heldShown.calls (k : Nat) (A0_0 : Option Addr) (c0_0 : Nat) (l0_0 : List ByteArray) (A0_1 : Option Addr) (c0_1 : Nat) (l0_1 : List ByteArray) (A0_2 : Option Addr) (c0_2 : Nat) (l0_2 : List ByteArray) (a0_3 : Int) (a1 : Int) (r : Int) (w : World) (hr0_0 : Kd.C Kd.string w A0_0 l0_0.length l0_0) (hc0_0 : l0_0.length ≤ c0_0) (hr0_1 : Kd.C Kd.string w A0_1 l0_1.length l0_1) (hc0_1 : l0_1.length ≤ c0_1) (hr0_2 : Kd.C Kd.string w A0_2 l0_2.length l0_2) (hc0_2 : l0_2.length ≤ c0_2) (h : laws_heldShown.f k l0_0 l0_1 l0_2 a0_3 a1 = some r) :
  Calls Try.prog 50 #[.agg #[.slice A0_0 l0_0.length c0_0, .slice A0_1 l0_1.length c0_1, .slice A0_2 l0_2.length c0_2, .int .i64 a0_3], .int .i64 a1] w fun e w' => e = .returned (.int .i64 r) ∧ Below w.heap.size w w' := by
 have hu43 := Try.underlying43; have HR0_0 := zA hr0_0; have HC0_0 := zA hc0_0; clear hr0_0 hc0_0; have HR0_1 := zA hr0_1; have HC0_1 := zA hc0_1; clear hr0_1 hc0_1; have HR0_2 := zA hr0_2; have HC0_2 := zA hc0_2; clear hr0_2 hc0_2; have HB := zA (Below.refl w.heap.size w); have H : ((laws_heldStringS.f k l0_0 a1).bind fun t31 => (if t31 < 0 then (some (-1)) else ((laws_heldStringS.f k l0_1 t31).bind fun t32 => (if t32 < 0 then (some (-1)) else ((laws_heldStringS.f k l0_2 t32).bind fun t33 => (if t33 < 0 then (some (-1)) else (some t33))))))) = some r := h; clear h; replace H := zAF H; obtain ⟨t31, A30, H⟩ := H; replace H : (if t31 < 0 then (some (-1)) else ((laws_heldStringS.f k l0_1 t31).bind fun t32 => (if t32 < 0 then (some (-1)) else ((laws_heldStringS.f k l0_2 t32).bind fun t33 => (if t33 < 0 then (some (-1)) else (some t33)))))) = some r := H; have A3 := zA A30; clear A30
 by_cases c4 : t31 < 0
 ·rw [if_pos c4] at H
  have c4b0 : decide (t31 < 0) = true := zX c4; clear c4; obtain rfl := yM H; go_enter Try.func50, Try.ntmps50; go_wp2_with (first | ((with_reducible refine gate_dst (N := 2) rfl ?_); refine box_event ?hg (N := 2) ?hd (cs := #[.slice A0_0 l0_0.length c0_0, .slice A0_1 l0_1.length c0_1, .slice A0_2 l0_2.length c0_2, .int .i64 a0_3]) (t := 43) ?hr ?_; (case hd => rfl); (case hg => rfl); (case hr => first | (go_simp; done) | (go_simp; rfl)); intro gb34 hg w5 hbox hb; have n0_ := zA (zAD HB.out hb); have n1_ := zA (hbox); have n2_ := zA ((by rw [hg]; exact (zAE HB.out) : w.heap.size ≤ gb34)); have n3_ := zA ((by rw [hg]; exact (zAE HB.out) : w.heap.size ≤ gb34)); clear HB; have HB := n0_; have BK34 := n1_; have GW34 := n2_; have GE34 := n3_; clear n0_ n1_ n2_ n3_; clear hb hbox hg; have hcz6_0 := yL BK34.out 0 (.slice A0_0 l0_0.length c0_0) rfl; have hcz6_1 := yL BK34.out 1 (.slice A0_1 l0_1.length c0_1) rfl; have hcz6_2 := yL BK34.out 2 (.slice A0_2 l0_2.length c0_2) rfl; have hcz6_3 := yL BK34.out 3 (.int .i64 a0_3) rfl; have hfz6_0 := zO BK34.out 0; have hfz6_1 := zO BK34.out 1; have hfz6_2 := zO BK34.out 2; have hfz6_3 := zO BK34.out 3) | ((with_reducible refine yB (f := 40) rfl ?_); refine goesL_ (some 8) rfl rfl Try.func40 (by kernel_rfl) rfl #[.slice A0_0 l0_0.length c0_0, .int .i64 a1] rfl (by (try simp only [zAA, zAB, zAC]); first | done | rfl | (simp only [zZ, zY]; rfl)) ?_; (with_reducible refine (laws_heldStringS.calls k _ _ l0_0 a1 t31 _ ?side1 ?side2 A3.out).mono ?_); (case side1 => exact (yN HR0_0.out HB.out)); (case side2 => exact HC0_0.out); rintro e w7 ⟨rfl, hb⟩; refine ⟨_, rfl, ?_⟩; have n0_ := zA (yE BK34.out hb); have n1_ := zA (zAD HB.out hb); clear BK34; clear HB; have BK34 := n0_; have HB := n1_; clear n0_ n1_; (try clear hb))); go_ret; exact ⟨by first | rfl | (simp <;> rfl) | (simp [*] <;> rfl), HB.out⟩
 ·rw [if_neg c4] at H
  have c4b0 : decide (t31 < 0) = false := decide_eq_false c4; clear c4; replace H := zAF H; obtain ⟨t32, A80, H⟩ := H; replace H : (if t32 < 0 then (some (-1)) else ((laws_heldStringS.f k l0_2 t32).bind fun t33 => (if t33 < 0 then (some (-1)) else (some t33)))) = some r := H; have A8 := zA A80; clear A80
  by_cases c9 : t32 < 0
  ·rw [if_pos c9] at H
   have c9b0 : decide (t32 < 0) = true := zX c9; clear c9; obtain rfl := yM H; go_enter Try.func50, Try.ntmps50; go_wp2_with (first | ((with_reducible refine gate_dst (N := 2) rfl ?_); refine box_event ?hg (N := 2) ?hd (cs := #[.slice A0_0 l0_0.length c0_0, .slice A0_1 l0_1.length c0_1, .slice A0_2 l0_2.length c0_2, .int .i64 a0_3]) (t := 43) ?hr ?_; (case hd => rfl); (case hg => rfl); (case hr => first | (go_simp; done) | (go_simp; rfl)); intro gb34 hg w10 hbox hb; have n0_ := zA (zAD HB.out hb); have n1_ := zA (hbox); have n2_ := zA ((by rw [hg]; exact (zAE HB.out) : w.heap.size ≤ gb34)); have n3_ := zA ((by rw [hg]; exact (zAE HB.out) : w.heap.size ≤ gb34)); clear HB; have HB := n0_; have BK34 := n1_; have GW34 := n2_; have GE34 := n3_; clear n0_ n1_ n2_ n3_; clear hb hbox hg; have hcz11_0 := yL BK34.out 0 (.slice A0_0 l0_0.length c0_0) rfl; have hcz11_1 := yL BK34.out 1 (.slice A0_1 l0_1.length c0_1) rfl; have hcz11_2 := yL BK34.out 2 (.slice A0_2 l0_2.length c0_2) rfl; have hcz11_3 := yL BK34.out 3 (.int .i64 a0_3) rfl; have hfz11_0 := zO BK34.out 0; have hfz11_1 := zO BK34.out 1; have hfz11_2 := zO BK34.out 2; have hfz11_3 := zO BK34.out 3) | ((with_reducible refine yB (f := 40) rfl ?_); refine goesL_ (some 8) rfl rfl Try.func40 (by kernel_rfl) rfl #[.slice A0_0 l0_0.length c0_0, .int .i64 a1] rfl (by (try simp only [zAA, zAB, zAC]); first | done | rfl | (simp only [zZ, zY]; rfl)) ?_; (with_reducible refine (laws_heldStringS.calls k _ _ l0_0 a1 t31 _ ?side1 ?side2 A3.out).mono ?_); (case side1 => exact (yN HR0_0.out HB.out)); (case side2 => exact HC0_0.out); rintro e w12 ⟨rfl, hb⟩; refine ⟨_, rfl, ?_⟩; have n0_ := zA (yE BK34.out hb); have n1_ := zA (zAD HB.out hb); clear BK34; clear HB; have BK34 := n0_; have HB := n1_; clear n0_ n1_; (try clear hb); have hcz13_0 := yL BK34.out 0 (.slice A0_0 l0_0.length c0_0) rfl; have hcz13_1 := yL BK34.out 1 (.slice A0_1 l0_1.length c0_1) rfl; have hcz13_2 := yL BK34.out 2 (.slice A0_2 l0_2.length c0_2) rfl; have hcz13_3 := yL BK34.out 3 (.int .i64 a0_3) rfl; have hfz13_0 := zO BK34.out 0; have hfz13_1 := zO BK34.out 1; have hfz13_2 := zO BK34.out 2; have hfz13_3 := zO BK34.out 3) | ((with_reducible refine yB (f := 40) rfl ?_); refine goesL_ (some 14) rfl rfl Try.func40 (by kernel_rfl) rfl #[.slice A0_1 l0_1.length c0_1, .int .i64 t31] rfl (by (try simp only [zAA, zAB, zAC]); first | done | rfl | (simp only [zZ, zY]; rfl)) ?_; (with_reducible refine (laws_heldStringS.calls k _ _ l0_1 t31 t32 _ ?side1 ?side2 A8.out).mono ?_); (case side1 => exact (yN HR0_1.out HB.out)); (case side2 => exact HC0_1.out); rintro e w14 ⟨rfl, hb⟩; refine ⟨_, rfl, ?_⟩; have n0_ := zA (yE BK34.out hb); have n1_ := zA (zAD HB.out hb); clear BK34; clear HB; have BK34 := n0_; have HB := n1_; clear n0_ n1_; (try clear hb))); go_ret; exact ⟨by first | rfl | (simp <;> rfl) | (simp [*] <;> rfl), HB.out⟩
  ·rw [if_neg c9] at H
   have c9b0 : decide (t32 < 0) = false := decide_eq_false c9; clear c9; replace H := zAF H; obtain ⟨t33, A35, H⟩ := H; replace H : (if t33 < 0 then (some (-1)) else (some t33)) = some r := H; have A15 := zA A35; clear A35
   by_cases c16 : t33 < 0
   ·rw [if_pos c16] at H
    have c16b0 : decide (t33 < 0) = true := zX c16; clear c16; obtain rfl := yM H; go_enter Try.func50, Try.ntmps50; go_wp2_with (first | ((with_reducible refine gate_dst (N := 2) rfl ?_); refine box_event ?hg (N := 2) ?hd (cs := #[.slice A0_0 l0_0.length c0_0, .slice A0_1 l0_1.length c0_1, .slice A0_2 l0_2.length c0_2, .int .i64 a0_3]) (t := 43) ?hr ?_; (case hd => rfl); (case hg => rfl); (case hr => first | (go_simp; done) | (go_simp; rfl)); intro gb34 hg w17 hbox hb; have n0_ := zA (zAD HB.out hb); have n1_ := zA (hbox); have n2_ := zA ((by rw [hg]; exact (zAE HB.out) : w.heap.size ≤ gb34)); have n3_ := zA ((by rw [hg]; exact (zAE HB.out) : w.heap.size ≤ gb34)); clear HB; have HB := n0_; have BK34 := n1_; have GW34 := n2_; have GE34 := n3_; clear n0_ n1_ n2_ n3_; clear hb hbox hg; have hcz18_0 := yL BK34.out 0 (.slice A0_0 l0_0.length c0_0) rfl; have hcz18_1 := yL BK34.out 1 (.slice A0_1 l0_1.length c0_1) rfl; have hcz18_2 := yL BK34.out 2 (.slice A0_2 l0_2.length c0_2) rfl; have hcz18_3 := yL BK34.out 3 (.int .i64 a0_3) rfl; have hfz18_0 := zO BK34.out 0; have hfz18_1 := zO BK34.out 1; have hfz18_2 := zO BK34.out 2; have hfz18_3 := zO BK34.out 3) | ((with_reducible refine yB (f := 40) rfl ?_); refine goesL_ (some 8) rfl rfl Try.func40 (by kernel_rfl) rfl #[.slice A0_0 l0_0.length c0_0, .int .i64 a1] rfl (by (try simp only [zAA, zAB, zAC]); first | done | rfl | (simp only [zZ, zY]; rfl)) ?_; (with_reducible refine (laws_heldStringS.calls k _ _ l0_0 a1 t31 _ ?side1 ?side2 A3.out).mono ?_); (case side1 => exact (yN HR0_0.out HB.out)); (case side2 => exact HC0_0.out); rintro e w19 ⟨rfl, hb⟩; refine ⟨_, rfl, ?_⟩; have n0_ := zA (yE BK34.out hb); have n1_ := zA (zAD HB.out hb); clear BK34; clear HB; have BK34 := n0_; have HB := n1_; clear n0_ n1_; (try clear hb); have hcz20_0 := yL BK34.out 0 (.slice A0_0 l0_0.length c0_0) rfl; have hcz20_1 := yL BK34.out 1 (.slice A0_1 l0_1.length c0_1) rfl; have hcz20_2 := yL BK34.out 2 (.slice A0_2 l0_2.length c0_2) rfl; have hcz20_3 := yL BK34.out 3 (.int .i64 a0_3) rfl; have hfz20_0 := zO BK34.out 0; have hfz20_1 := zO BK34.out 1; have hfz20_2 := zO BK34.out 2; have hfz20_3 := zO BK34.out 3) | ((with_reducible refine yB (f := 40) rfl ?_); refine goesL_ (some 14) rfl rfl Try.func40 (by kernel_rfl) rfl #[.slice A0_1 l0_1.length c0_1, .int .i64 t31] rfl (by (try simp only [zAA, zAB, zAC]); first | done | rfl | (simp only [zZ, zY]; rfl)) ?_; (with_reducible refine (laws_heldStringS.calls k _ _ l0_1 t31 t32 _ ?side1 ?side2 A8.out).mono ?_); (case side1 => exact (yN HR0_1.out HB.out)); (case side2 => exact HC0_1.out); rintro e w21 ⟨rfl, hb⟩; refine ⟨_, rfl, ?_⟩; have n0_ := zA (yE BK34.out hb); have n1_ := zA (zAD HB.out hb); clear BK34; clear HB; have BK34 := n0_; have HB := n1_; clear n0_ n1_; (try clear hb); have hcz22_0 := yL BK34.out 0 (.slice A0_0 l0_0.length c0_0) rfl; have hcz22_1 := yL BK34.out 1 (.slice A0_1 l0_1.length c0_1) rfl; have hcz22_2 := yL BK34.out 2 (.slice A0_2 l0_2.length c0_2) rfl; have hcz22_3 := yL BK34.out 3 (.int .i64 a0_3) rfl; have hfz22_0 := zO BK34.out 0; have hfz22_1 := zO BK34.out 1; have hfz22_2 := zO BK34.out 2; have hfz22_3 := zO BK34.out 3) | ((with_reducible refine yB (f := 40) rfl ?_); refine goesL_ (some 20) rfl rfl Try.func40 (by kernel_rfl) rfl #[.slice A0_2 l0_2.length c0_2, .int .i64 t32] rfl (by (try simp only [zAA, zAB, zAC]); first | done | rfl | (simp only [zZ, zY]; rfl)) ?_; (with_reducible refine (laws_heldStringS.calls k _ _ l0_2 t32 t33 _ ?side1 ?side2 A15.out).mono ?_); (case side1 => exact (yN HR0_2.out HB.out)); (case side2 => exact HC0_2.out); rintro e w23 ⟨rfl, hb⟩; refine ⟨_, rfl, ?_⟩; have n0_ := zA (yE BK34.out hb); have n1_ := zA (zAD HB.out hb); clear BK34; clear HB; have BK34 := n0_; have HB := n1_; clear n0_ n1_; (try clear hb)))
    go_ret; exact ⟨by first | rfl | (simp <;> rfl) | (simp [*] <;> rfl), HB.out⟩
   ·rw [if_neg c16] at H
    have c16b0 : decide (t33 < 0) = false := decide_eq_false c16; clear c16; obtain rfl := yM H; go_enter Try.func50, Try.ntmps50; go_wp2_with (first | ((with_reducible refine gate_dst (N := 2) rfl ?_); refine box_event ?hg (N := 2) ?hd (cs := #[.slice A0_0 l0_0.length c0_0, .slice A0_1 l0_1.length c0_1, .slice A0_2 l0_2.length c0_2, .int .i64 a0_3]) (t := 43) ?hr ?_; (case hd => rfl); (case hg => rfl); (case hr => first | (go_simp; done) | (go_simp; rfl)); intro gb34 hg w24 hbox hb; have n0_ := zA (zAD HB.out hb); have n1_ := zA (hbox); have n2_ := zA ((by rw [hg]; exact (zAE HB.out) : w.heap.size ≤ gb34)); have n3_ := zA ((by rw [hg]; exact (zAE HB.out) : w.heap.size ≤ gb34)); clear HB; have HB := n0_; have BK34 := n1_; have GW34 := n2_; have GE34 := n3_; clear n0_ n1_ n2_ n3_; clear hb hbox hg; have hcz25_0 := yL BK34.out 0 (.slice A0_0 l0_0.length c0_0) rfl; have hcz25_1 := yL BK34.out 1 (.slice A0_1 l0_1.length c0_1) rfl; have hcz25_2 := yL BK34.out 2 (.slice A0_2 l0_2.length c0_2) rfl; have hcz25_3 := yL BK34.out 3 (.int .i64 a0_3) rfl; have hfz25_0 := zO BK34.out 0; have hfz25_1 := zO BK34.out 1; have hfz25_2 := zO BK34.out 2; have hfz25_3 := zO BK34.out 3) | ((with_reducible refine yB (f := 40) rfl ?_); refine goesL_ (some 8) rfl rfl Try.func40 (by kernel_rfl) rfl #[.slice A0_0 l0_0.length c0_0, .int .i64 a1] rfl (by (try simp only [zAA, zAB, zAC]); first | done | rfl | (simp only [zZ, zY]; rfl)) ?_; (with_reducible refine (laws_heldStringS.calls k _ _ l0_0 a1 t31 _ ?side1 ?side2 A3.out).mono ?_); (case side1 => exact (yN HR0_0.out HB.out)); (case side2 => exact HC0_0.out); rintro e w26 ⟨rfl, hb⟩; refine ⟨_, rfl, ?_⟩; have n0_ := zA (yE BK34.out hb); have n1_ := zA (zAD HB.out hb); clear BK34; clear HB; have BK34 := n0_; have HB := n1_; clear n0_ n1_; (try clear hb); have hcz27_0 := yL BK34.out 0 (.slice A0_0 l0_0.length c0_0) rfl; have hcz27_1 := yL BK34.out 1 (.slice A0_1 l0_1.length c0_1) rfl; have hcz27_2 := yL BK34.out 2 (.slice A0_2 l0_2.length c0_2) rfl; have hcz27_3 := yL BK34.out 3 (.int .i64 a0_3) rfl; have hfz27_0 := zO BK34.out 0; have hfz27_1 := zO BK34.out 1; have hfz27_2 := zO BK34.out 2; have hfz27_3 := zO BK34.out 3) | ((with_reducible refine yB (f := 40) rfl ?_); refine goesL_ (some 14) rfl rfl Try.func40 (by kernel_rfl) rfl #[.slice A0_1 l0_1.length c0_1, .int .i64 t31] rfl (by (try simp only [zAA, zAB, zAC]); first | done | rfl | (simp only [zZ, zY]; rfl)) ?_; (with_reducible refine (laws_heldStringS.calls k _ _ l0_1 t31 t32 _ ?side1 ?side2 A8.out).mono ?_); (case side1 => exact (yN HR0_1.out HB.out)); (case side2 => exact HC0_1.out); rintro e w28 ⟨rfl, hb⟩; refine ⟨_, rfl, ?_⟩; have n0_ := zA (yE BK34.out hb); have n1_ := zA (zAD HB.out hb); clear BK34; clear HB; have BK34 := n0_; have HB := n1_; clear n0_ n1_; (try clear hb); have hcz29_0 := yL BK34.out 0 (.slice A0_0 l0_0.length c0_0) rfl; have hcz29_1 := yL BK34.out 1 (.slice A0_1 l0_1.length c0_1) rfl; have hcz29_2 := yL BK34.out 2 (.slice A0_2 l0_2.length c0_2) rfl; have hcz29_3 := yL BK34.out 3 (.int .i64 a0_3) rfl; have hfz29_0 := zO BK34.out 0; have hfz29_1 := zO BK34.out 1; have hfz29_2 := zO BK34.out 2; have hfz29_3 := zO BK34.out 3) | ((with_reducible refine yB (f := 40) rfl ?_); refine goesL_ (some 20) rfl rfl Try.func40 (by kernel_rfl) rfl #[.slice A0_2 l0_2.length c0_2, .int .i64 t32] rfl (by (try simp only [zAA, zAB, zAC]); first | done | rfl | (simp only [zZ, zY]; rfl)) ?_; (with_reducible refine (laws_heldStringS.calls k _ _ l0_2 t32 t33 _ ?side1 ?side2 A15.out).mono ?_); (case side1 => exact (yN HR0_2.out HB.out)); (case side2 => exact HC0_2.out); rintro e w30 ⟨rfl, hb⟩; refine ⟨_, rfl, ?_⟩; have n0_ := zA (yE BK34.out hb); have n1_ := zA (zAD HB.out hb); clear BK34; clear HB; have BK34 := n0_; have HB := n1_; clear n0_ n1_; (try clear hb)))
    go_ret; exact ⟨by first | rfl | (simp <;> rfl) | (simp [*] <;> rfl), HB.out⟩
def laws_heldIntS.l0 : Nat → List Int → Int → Int → Option (Int)
 | 0, _, _, _ => none
 | k + 1, x0, x1, x5 => if x5 < (x0.length : Int) then (if 0 ≤ x5 then (if (rd x0 x5) = x1 then (laws_heldIntS.l0 k x0 (wrap64 (x1 + 1)) (wrap64 (x5 + 1))) else (some (-1))) else (none)) else (some x1)
def laws_heldIntS.f (k : Nat) (l0 : List Int) (a1 : Int) : Option (Int) := laws_heldIntS.l0 k l0 a1 0
theorem laws_heldIntS.calls (k : Nat) (A0 : Option Addr) (c0 : Nat) (l0 : List Int) (a1 : Int) (r : Int) (w : World) (hr0 : Kd.C (Kd.int .i64) w A0 l0.length l0) (hc0 : l0.length ≤ c0) (h : laws_heldIntS.f k l0 a1 = some r) :
  Calls Try.prog 51 #[.slice A0 l0.length c0, .int .i64 a1] w fun e w' => e = .returned (.int .i64 r) ∧ Drawn0 w w' := by
 have HR0 := zA hr0; have HC0 := zA hc0; clear hr0 hc0; have H : (laws_heldIntS.l0 k l0 a1 0) = some r := h; clear h; have H' := zA H; clear H; go_enter Try.func51, Try.ntmps51; go_wp2; go_loopg [1, 5] k (fun kq v1 v5 w' => ∃ (x1_1 : Int) (x5_1 : Int), v1 = .int .i64 x1_1 ∧ v5 = .int .i64 x5_1 ∧ Aside0 (laws_heldIntS.l0 kq l0 x1_1 x5_1 = some r) ∧ Aside0 (kq ≤ k) ∧ Drawn0 w w')
 case atStart => exact ⟨(a1), (0), rfl, rfl, H', ⟨Nat.le_refl _⟩, by repeat (first | exact Drawn0.refl _ | apply Drawn0.step)⟩
 case round =>
  clear H'
  try clear p2
  obtain ⟨x1_1, x5_1, rfl, rfl, HA, HK1, ⟨m1, rfl⟩⟩ := hrel
  cases gk with
  | zero => exact absurd HA.out (by simp [laws_heldIntS.l0])
  | succ k1 =>
   have H := HA.out; clear HA; simp only [laws_heldIntS.l0] at H
   by_cases c3 : x5_1 < (l0.length : Int)
   ·rw [if_pos c3] at H
    have c3b0 : decide (x5_1 < (l0.length : Int)) = true := zX c3; clear c3
    by_cases c4 : 0 ≤ x5_1
    ·rw [if_pos c4] at H
     have c4b0 : decide (0 ≤ x5_1) = true := zX c4; clear c4
     by_cases c5 : (rd l0 x5_1) = x1_1
     ·rw [if_pos c5] at H
      have c5b0 : ((rd l0 x5_1) == x1_1) = true := beq_iff_eq.mpr c5; have c5b1 : ((rd l0 x5_1) != x1_1) = false := bne_eq_false_iff_eq.mpr c5; clear c5; have H' := zA H; clear H; have p10 : 0 ≤ (x5_1 : Int) := zW (by assumption); have q10 : x5_1 < (l0.length : Int) := zW (by assumption); obtain ⟨ad10, e10, hx10_0⟩ := Kd.at_int HR0.out x5_1 p10 q10
      cases e10
      replace p10 := eq_true p10; replace q10 := eq_true q10; go_wp2; go_roundg k1
      case measure => have := HK1.out; omega
      case rel => exact ⟨(wrap64 (x1_1 + 1)), (wrap64 (x5_1 + 1)), rfl, rfl, H', ⟨by have := HK1.out; omega⟩, by repeat (first | exact Drawn0.refl _ | apply Drawn0.step)⟩
     ·rw [if_neg c5] at H
      have c5b0 : ((rd l0 x5_1) == x1_1) = false := beq_eq_false_iff_ne.mpr c5; have c5b1 : ((rd l0 x5_1) != x1_1) = true := bne_iff_ne.mpr c5; obtain rfl := yM H; have p10 : 0 ≤ (x5_1 : Int) := zW (by assumption); have q10 : x5_1 < (l0.length : Int) := zW (by assumption); obtain ⟨ad10, e10, hx10_0⟩ := Kd.at_int HR0.out x5_1 p10 q10
      cases e10
      replace p10 := eq_true p10; replace q10 := eq_true q10; go_wp2; go_ret; exact ⟨by first | rfl | (simp; done) | (simp [*]; done) | (simp [bne]; done), by repeat (first | exact Drawn0.refl _ | apply Drawn0.step)⟩
    ·rw [if_neg c4] at H
     exact absurd H (by simp)
   ·rw [if_neg c3] at H
    have c3b0 : decide (x5_1 < (l0.length : Int)) = false := decide_eq_false c3; clear c3; obtain rfl := yM H; go_wp2; go_ret; exact ⟨by first | rfl | (simp; done) | (simp [*]; done) | (simp [bne]; done), by repeat (first | exact Drawn0.refl _ | apply Drawn0.step)⟩
end Go.Proofs.Ytnplghcbdaiogaa.PA
end
section
namespace Go.Proofs.Ytnplghcbdaiogaa.QW
open Go.RowKit Go.Proofs.YtnplghcbdaiogaaW.PrintWords Go.Proofs.YtnplghcbdaiogaaW.PrintLast Go.Proofs.YtnplghcbdaiogaaW.PrintMore Go.Proofs.Ytnplghcbdaiogaa.PA
set_option linter.unusedVariables false
structure T where
 f0 : List ByteArray
 f1 : List ByteArray
 f2 : List T
def readK (rd : Nat → Option (T × Nat)) : List Int → Nat → Option (List T × Nat)
 | [], at_ => some ([], at_)
 | k :: ks, at_ => if k = (at_ : Int) then (match rd at_ with
  | none => none
  | some (t, e) => (match readK rd ks e with
   | none => none
   | some (l, e') => some (t :: l, e'))) else none
def okP (p : S97) : Prop := p.f0.length ≤ 4 ∧ p.f1.length = p.f0.length ∧ (p.f2.length = 0 ∨ p.f2.length = p.f0.length + 1)
instance (p : S97) : Decidable (okP p) := by unfold okP; infer_instance
def readF (ps : List S97) : Nat → Nat → Option (T × Nat)
 | 0, _ => none
 | n + 1, at_ => match ps[at_]? with
  | none => none
  | some p => if okP p then (match readK (readF ps n) p.f2 (at_ + 1) with
   | none => none
   | some (l, e) => some (⟨p.f0, p.f1, l⟩, e)) else none
mutual
def er95 : S95 → T
 | ⟨_, K, V, l⟩ => ⟨K, V, erL95 l⟩
def erL95 : List S95 → List T
 | [] => []
 | x :: l => er95 x :: erL95 l
end
theorem erL95_map (l : List S95) : erL95 l = l.map er95 := by
 induction l with
 | nil => rfl
 | cons x l ih => rw [erL95, List.map_cons, ih]
theorem er95_eq (x : S95) : er95 x = ⟨x.f0, x.f1, x.f2.map er95⟩ := by
 obtain ⟨a, K, V, l⟩ := x
 rw [er95, erL95_map]
theorem ind95 {P : S95 → Prop} (h : ∀ x : S95, (∀ k ∈ x.f2, P k) → P x) (x : S95) : P x :=
 S95.rec (motive_1 := P) (motive_2 := fun l => ∀ k ∈ l, P k) (fun a K V l ih => h ⟨a, K, V, l⟩ ih) (fun k hk => absurd hk List.not_mem_nil) (fun x l hx hl k hk => by
  rcases List.mem_cons.1 hk with rfl | hk
  ·exact hx
  ·exact hl k hk) x
mutual
def er74 : S74 → T
 | ⟨_, K, V, l⟩ => ⟨K, V, erL74 l⟩
def erL74 : List S74 → List T
 | [] => []
 | x :: l => er74 x :: erL74 l
end
theorem erL74_map (l : List S74) : erL74 l = l.map er74 := by
 induction l with
 | nil => rfl
 | cons x l ih => rw [erL74, List.map_cons, ih]
theorem er74_eq (x : S74) : er74 x = ⟨x.f0, x.f1, x.f2.map er74⟩ := by
 obtain ⟨a, K, V, l⟩ := x
 rw [er74, erL74_map]
theorem ind74 {P : S74 → Prop} (h : ∀ x : S74, (∀ k ∈ x.f2, P k) → P x) (x : S74) : P x :=
 S74.rec (motive_1 := P) (motive_2 := fun l => ∀ k ∈ l, P k) (fun a K V l ih => h ⟨a, K, V, l⟩ ih) (fun k hk => absurd hk List.not_mem_nil) (fun x l hx hl k hk => by
  rcases List.mem_cons.1 hk with rfl | hk
  ·exact hx
  ·exact hl k hk) x
theorem indT {P : T → Prop} (h : ∀ x : T, (∀ k ∈ x.f2, P k) → P x) (x : T) : P x :=
 T.rec (motive_1 := P) (motive_2 := fun l => ∀ k ∈ l, P k) (fun K V l ih => h ⟨K, V, l⟩ ih) (fun k hk => absurd hk List.not_mem_nil) (fun x l hx hl k hk => by
  rcases List.mem_cons.1 hk with rfl | hk
  ·exact hx
  ·exact hl k hk) x
theorem k95p_mkM {w : World} {base : Nat} {ok : Nat → Prop} {x : S95} {v0 v1 v2 : Value} (h0 : ok x.adr) (hb : base ≤ x.adr) (hg : w.heap[x.adr]? = some (.cells #[v0, v1, v2] 95 (0, 0)))
  (g0 : Kd.string.R 9 w base (fun k => ok k ∧ k ≠ x.adr) v0 x.f0) (g1 : Kd.string.R 9 w base (fun k => ok k ∧ k ≠ x.adr) v1 x.f1) (g2 : k95p.R 54 w base (fun k => ok k ∧ k ≠ x.adr) v2 x.f2) :
  k95p.M w base ok x [.pointer (some ⟨x.adr, 0, none⟩)] := by
 obtain ⟨n, g2⟩ := Kd.fix_R_back mono95 g2
 exact ⟨n + 1, #[v0, v1, v2], rfl, h0, hb, hg, [v0], [v1, v2], rfl, ⟨v0, rfl, g0⟩, [v1], [v2], rfl, ⟨v1, rfl, g1⟩, ⟨v2, rfl, g2⟩⟩
theorem k74p_mkM {w : World} {base : Nat} {ok : Nat → Prop} {x : S74} {v0 v1 v2 : Value} (h0 : ok x.adr) (hb : base ≤ x.adr) (hg : w.heap[x.adr]? = some (.cells #[v0, v1, v2] 74 (0, 0)))
  (g0 : Kd.string.R 9 w base (fun k => ok k ∧ k ≠ x.adr) v0 x.f0) (g1 : Kd.string.R 9 w base (fun k => ok k ∧ k ≠ x.adr) v1 x.f1) (g2 : k74p.R 60 w base (fun k => ok k ∧ k ≠ x.adr) v2 x.f2) :
  k74p.M w base ok x [.pointer (some ⟨x.adr, 0, none⟩)] := by
 obtain ⟨n, g2⟩ := Kd.fix_R_back mono74 g2
 exact ⟨n + 1, #[v0, v1, v2], rfl, h0, hb, hg, [v0], [v1, v2], rfl, ⟨v0, rfl, g0⟩, [v1], [v2], rfl, ⟨v1, rfl, g1⟩, ⟨v2, rfl, g2⟩⟩
theorem R_apart {α β : Type} {d : Kd α} {d' : Kd β} {e e' : Nat} {w : World} {base base' : Nat} {ok ok' : Nat → Prop} {v u : Value} {xs : List α} {ys : List β} (h : d.R e w base ok v xs) (h' : d'.R e' w base' ok' u ys) (ht : ∀ q, q ∈ e :: d.E → q ≠ e') :
  d.R e w base (fun k => ok k ∧ some k ≠ u.ownBlock) v xs :=
 Kd.R_mono (Kd.R_bound h) (fun k hk => ⟨hk.1, fun he => by
  obtain ⟨_, _, _, q, hq, cells', hc⟩ := hk
  obtain ⟨inner, ho⟩ := Kd.R_own h'
  obtain ⟨cells, hc'⟩ := own_typed ho k he.symm
  rw [hc] at hc'
  injection hc' with hc'
  injection hc' with _ hq'
  exact ht q hq hq'⟩)
theorem info54 : (Try.prog.info? 54).map (fun i => (i.zero, i.size, i.bytes)) = some (some (.pointer none), 1, 8) := by kernel_rfl
theorem info60 : (Try.prog.info? 60).map (fun i => (i.zero, i.size, i.bytes)) = some (some (.pointer none), 1, 8) := by kernel_rfl
theorem w64N (i : Nat) (h : i < 4611686018427387904) : Value.int .i64 (wrap64 ((i : Int) + 1)) = Value.int .i64 ((i + 1 : Nat) : Int) := by
 have : wrap64 ((i : Int) + 1) = ((i + 1 : Nat) : Int) := by unfold wrap64; omega
 rw [this]
def Sml (ps : List S97) : Prop := ps.length < 1099511627776 ∧ ∀ p ∈ ps, p.f0.length < 1099511627776 ∧ p.f1.length < 1099511627776 ∧ p.f2.length < 1099511627776
theorem readK_le {rd : Nat → Option (T × Nat)} {m : Nat} (hrd : ∀ a t e, rd a = some (t, e) → a < e ∧ e ≤ m) : ∀ (ks : List Int) (a : Nat) (l : List T) (e : Nat), a ≤ m → readK rd ks a = some (l, e) → a ≤ e ∧ e ≤ m := by
 intro ks
 induction ks with
 | nil =>
  intro a l e ha h
  simp only [readK, Option.some.injEq, Prod.mk.injEq] at h
  omega
 | cons k ks ih =>
  intro a l e ha h
  rw [readK] at h
  by_cases c : k = (a : Int)
  ·rw [if_pos c] at h
   cases hr : rd a with
   | none => rw [hr] at h; cases h
   | some te =>
    obtain ⟨t, e1⟩ := te
    rw [hr] at h
    dsimp only at h
    have h1 := hrd a t e1 hr
    cases hk : readK rd ks e1 with
    | none => rw [hk] at h; cases h
    | some le =>
     obtain ⟨l1, e2⟩ := le
     rw [hk] at h
     dsimp only at h
     have h2 := ih e1 l1 e2 (by omega) hk
     simp only [Option.some.injEq, Prod.mk.injEq] at h
     omega
  ·rw [if_neg c] at h; cases h
theorem readF_le (ps : List S97) : ∀ (n a : Nat) (t : T) (e : Nat), readF ps n a = some (t, e) → a < e ∧ e ≤ ps.length := by
 intro n
 induction n with
 | zero => intro a t e h; cases h
 | succ n ih =>
  intro a t e h
  rw [readF] at h
  cases hp : ps[a]? with
  | none => rw [hp] at h; cases h
  | some p =>
   rw [hp] at h
   dsimp only at h
   have ha : a < ps.length := by
    rcases Nat.lt_or_ge a ps.length with h1 | h1
    ·exact h1
    ·rw [List.getElem?_eq_none h1] at hp; cases hp
   by_cases c : okP p
   ·rw [if_pos c] at h
    cases hk : readK (readF ps n) p.f2 (a + 1) with
    | none => rw [hk] at h; cases h
    | some le =>
     obtain ⟨l, e1⟩ := le
     rw [hk] at h
     dsimp only at h
     have := readK_le ih p.f2 (a + 1) l e1 (by omega) hk
     simp only [Option.some.injEq, Prod.mk.injEq] at h
     omega
   ·rw [if_neg c] at h; cases h
end Go.Proofs.Ytnplghcbdaiogaa.QW
end
section
namespace Go.Proofs.Ytnplghcbdaiogaa.RF
open Go.RowKit Go.Proofs.YtnplghcbdaiogaaW.PrintWords Go.Proofs.YtnplghcbdaiogaaW.PrintLast Go.Proofs.YtnplghcbdaiogaaW.PrintMore Go.Proofs.Ytnplghcbdaiogaa.PA
attribute [local go_sem] max2_int min2_int max_two min_two max_three min_three max_four min_four
set_option linter.unusedVariables false
set_option linter.unusedSimpArgs false
set_option maxHeartbeats 4000000
set_option maxRecDepth 100000
def apart (cs : List Value) : Prop := ∀ (i j k : Nat) (u v : Value), cs[i]? = some u → cs[j]? = some v → u.ownBlock = some k → v.ownBlock = some k → i = j
def aps {α : Type} (d : Kd α) : Kd α where
 sz := d.sz
 E := d.E
 K := d.K
 M := fun w base ok x cs => d.M w base ok x cs ∧ apart cs
 K_len := d.K_len
 K_one := d.K_one
 K_below := d.K_below
 K_of_M := fun h => d.K_of_M h.1
 M_mono := fun hok h => ⟨d.M_mono hok h.1, h.2⟩
 M_bound := fun h => ⟨d.M_bound h.1, h.2⟩
 M_move := fun hm h => ⟨d.M_move hm h.1, h.2⟩
 M_lower := fun hb h => ⟨d.M_lower hb h.1, h.2⟩
theorem aps_C {α : Type} {d : Kd α} {w : World} {A : Option Addr} {n : Nat} {xs : List α} (h : (aps d).C w A n xs) : d.C w A n xs := h
def ap3 (v0 v1 v2 : Value) : Prop := (∀ k, v0.ownBlock = some k → v1.ownBlock ≠ some k ∧ v2.ownBlock ≠ some k) ∧ ∀ k, v1.ownBlock = some k → v2.ownBlock ≠ some k
theorem ap3_nil : ap3 (.slice none 0 0) (.slice none 0 0) (.slice none 0 0) := ⟨fun k h => by simp [Value.ownBlock] at h, fun k h => by simp [Value.ownBlock] at h⟩
theorem apart_of {v0 v1 v2 : Value} {q : Int} (h : ap3 v0 v1 v2) : apart [v0, v1, v2, .int .i64 q] := by
 intro i j k u v hu hv ou ov
 have e3 : (Value.int .i64 q).ownBlock = none := rfl
 match i, j, hu, hv with
 | 0, 0, _, _ => rfl
 | 1, 1, _, _ => rfl
 | 2, 2, _, _ => rfl
 | 3, 3, _, _ => rfl
 | 0, 1, hu, hv => cases hu; cases hv; exact absurd ov (h.1 k ou).1
 | 0, 2, hu, hv => cases hu; cases hv; exact absurd ov (h.1 k ou).2
 | 1, 0, hu, hv => cases hu; cases hv; exact absurd ou (h.1 k ov).1
 | 2, 0, hu, hv => cases hu; cases hv; exact absurd ou (h.1 k ov).2
 | 1, 2, hu, hv => cases hu; cases hv; exact absurd ov (h.2 k ou)
 | 2, 1, hu, hv => cases hu; cases hv; exact absurd ou (h.2 k ov)
 | 3, _, hu, _ => cases hu; rw [e3] at ou; cases ou
 | _, 3, _, hv => cases hv; rw [e3] at ov; cases ov
 | n + 4, _, hu, _ => simp at hu
 | _, n + 4, _, hv => simp at hv
section
variable {W W' : World} {base g n cap : Nat} {ok : Nat → Prop} {xs : List S43}
theorem H_cell {α : Type} {d : Kd α} {e : Nat} {v : Value} {ys : List α} {i : Int} {oki S : Nat → Prop} {c : List Value} (h : Kd.H d e W base ok v ys i oki c) (hk : Kept W W' S) (hs : ∀ k, S k → oki k) : Kd.H d e W' base ok v ys i oki c := Kd.H_kept h hk (fun k _ hn hk => hn (hs k hk))
end
def a97 : Kd S97 := aps k97
theorem apart_of3 {v0 v1 v2 : Value} (h : ap3 v0 v1 v2) : apart [v0, v1, v2] := by
 have pre : ∀ (i : Nat) (u : Value), [v0, v1, v2][i]? = some u → [v0, v1, v2, Value.int .i64 0][i]? = some u := fun i u hu => by
  match i, hu with
  | 0, hu => exact hu
  | 1, hu => exact hu
  | 2, hu => exact hu
  | n + 3, hu => simp at hu
 exact fun i j k u v hu hv => apart_of (q := 0) h i j k u v (pre i u hu) (pre j v hv)
theorem of_apart3 {v0 v1 v2 : Value} (h : apart [v0, v1, v2]) : ap3 v0 v1 v2 :=
 ⟨fun k h0 => ⟨fun h1 => by have := h 0 1 k v0 v1 rfl rfl h0 h1; omega, fun h1 => by have := h 0 2 k v0 v2 rfl rfl h0 h1; omega⟩, fun k h0 h1 => by have := h 1 2 k v1 v2 rfl rfl h0 h1; omega⟩
theorem a97_openM {w : World} {base : Nat} {ok : Nat → Prop} {x : S97} {cs : List Value} (h : a97.M w base ok x cs) : ∃ v0 v1 v2, cs = [v0, v1, v2] ∧ Kd.string.R 9 w base ok v0 x.f0 ∧ Kd.string.R 9 w base ok v1 x.f1 ∧ (Kd.int .i64).R 3 w base ok v2 x.f2 := k97_openM h.1
theorem a97_openA {w : World} {base : Nat} {ok : Nat → Prop} {x : S97} {cs : List Value} (h : a97.M w base ok x cs) : ∃ v0 v1 v2, cs = [v0, v1, v2] ∧ Kd.string.R 9 w base ok v0 x.f0 ∧ Kd.string.R 9 w base ok v1 x.f1 ∧ (Kd.int .i64).R 3 w base ok v2 x.f2 ∧ ap3 v0 v1 v2 := by
 obtain ⟨v0, v1, v2, rfl, h0, h1, h2⟩ := k97_openM h.1
 exact ⟨v0, v1, v2, rfl, h0, h1, h2, of_apart3 h.2⟩
theorem a97_mkM (w : World) (base : Nat) (ok : Nat → Prop) (x : S97) {v0 : Value} (g0 : Kd.string.R 9 w base ok v0 x.f0) {v1 : Value} (g1 : Kd.string.R 9 w base ok v1 x.f1) {v2 : Value} (g2 : (Kd.int .i64).R 3 w base ok v2 x.f2) (ha : ap3 v0 v1 v2) : a97.M w base ok x [v0, v1, v2] := ⟨k97_mkM w base ok x g0 g1 g2, apart_of3 ha⟩
theorem ne_types {w : World} {b b' : Nat} {ok ok' : Nat → Prop} {v u : Value} {xs : List ByteArray} {ys : List Int} (h : Kd.string.R 9 w b ok v xs) (h' : (Kd.int .i64).R 3 w b' ok' u ys) : ∀ k, v.ownBlock = some k → u.ownBlock ≠ some k :=
 fun k hk hu => (Go.Proofs.Ytnplghcbdaiogaa.QW.R_apart h h' (by decide)).1 k hk |>.2 hu.symm
section
variable {W W' : World} {base g n cap : Nat} {ok : Nat → Prop} {xs : List S97}
abbrev own (v : Value) (k : Nat) : Prop := some k = v.ownBlock
theorem lend97 (h : Kd.S a97 97 W base ok (.slice (some ⟨g, 0, none⟩) n cap) xs) (i : Int) (h0 : 0 ≤ i) (h1 : i < n) (x : S97) (hx : rd_T97 xs i = x) :
  ∃ A0 c0 A1 c1 A2 c2, W.cell? ⟨g, i.toNat * 3, none⟩ = some (.slice A0 x.f0.length c0) ∧ W.cell? ⟨g, i.toNat * 3 + 1, none⟩ = some (.slice A1 x.f1.length c1) ∧ W.cell? ⟨g, i.toNat * 3 + 2, none⟩ = some (.slice A2 x.f2.length c2) ∧
   Kd.string.R 9 W base (fun k => some k = (Value.slice A0 x.f0.length c0).ownBlock) (.slice A0 x.f0.length c0) x.f0 ∧ Kd.string.R 9 W base (fun k => some k = (Value.slice A1 x.f1.length c1).ownBlock) (.slice A1 x.f1.length c1) x.f1 ∧ (Kd.int .i64).R 3 W base (fun k => some k = (Value.slice A2 x.f2.length c2).ownBlock) (.slice A2 x.f2.length c2) x.f2 ∧
   (∀ k, some k = (Value.slice A0 x.f0.length c0).ownBlock → ok k) ∧ (∀ k, some k = (Value.slice A1 x.f1.length c1).ownBlock → ok k) ∧ (∀ k, some k = (Value.slice A2 x.f2.length c2).ownBlock → ok k) ∧
   (∀ (W' : World) (t : List ByteArray), Kept W W' (fun k => some k = (Value.slice A0 x.f0.length c0).ownBlock) → Kd.string.R 9 W' base (fun k => some k = (Value.slice A0 x.f0.length c0).ownBlock ∨ W.heap.size ≤ k) (.slice A0 x.f0.length c0) t → Kd.S a97 97 W' base ok (.slice (some ⟨g, 0, none⟩) n cap) (xs.set i.toNat ⟨t, x.f1, x.f2⟩)) ∧
   (∀ (W' : World) (t : List ByteArray), Kept W W' (fun k => some k = (Value.slice A1 x.f1.length c1).ownBlock) → Kd.string.R 9 W' base (fun k => some k = (Value.slice A1 x.f1.length c1).ownBlock ∨ W.heap.size ≤ k) (.slice A1 x.f1.length c1) t → Kd.S a97 97 W' base ok (.slice (some ⟨g, 0, none⟩) n cap) (xs.set i.toNat ⟨x.f0, t, x.f2⟩)) ∧
   (∀ (W' : World) (t : List Int), Kept W W' (fun k => some k = (Value.slice A2 x.f2.length c2).ownBlock) → (Kd.int .i64).R 3 W' base (fun k => some k = (Value.slice A2 x.f2.length c2).ownBlock ∨ W.heap.size ≤ k) (.slice A2 x.f2.length c2) t → Kd.S a97 97 W' base ok (.slice (some ⟨g, 0, none⟩) n cap) (xs.set i.toNat ⟨x.f0, x.f1, t⟩)) := by
 subst hx
 obtain ⟨oki, c, hcl, hM, hcc, hfr, hoki, hH⟩ := Kd.S_elem h z97 i h0 h1
 obtain ⟨v0, v1, v2, rfl, g0, g1, g2, ha⟩ := a97_openA (x := rd_T97 xs i) hM
 obtain ⟨A0, c0, rfl⟩ := Kd.R_slice g0
 obtain ⟨A1, c1, rfl⟩ := Kd.R_slice g1
 obtain ⟨A2, c2, rfl⟩ := Kd.R_slice g2
 have t0 := Kd.R_tight rfl g0
 have t1 := Kd.R_tight rfl g1
 have t2 := Kd.R_tight rfl g2
 have s0 : ∀ k, own (.slice A0 (rd_T97 xs i).f0.length c0) k → oki k := fun k hk => g0.1 k hk.symm
 have s1 : ∀ k, own (.slice A1 (rd_T97 xs i).f1.length c1) k → oki k := fun k hk => g1.1 k hk.symm
 have s2 : ∀ k, own (.slice A2 (rd_T97 xs i).f2.length c2) k → oki k := fun k hk => g2.1 k hk.symm
 refine ⟨A0, c0, A1, c1, A2, c2, hcc 0 _ rfl, hcc 1 _ rfl, hcc 2 _ rfl, t0, t1, t2, fun k hk => (hoki k (s0 k hk)).1, fun k hk => (hoki k (s1 k hk)).1, fun k hk => (hoki k (s2 k hk)).1, ?_, ?_, ?_⟩
 ·intro W' t hk hr
  have hr' := Kd.R_mono (Kd.R_tight rfl hr) s0
  refine Kd.H_back (H_cell hH hk s0) (okp := oki) (a97_mkM W' base oki ⟨t, (rd_T97 xs i).f1, (rd_T97 xs i).f2⟩ hr' (Kd.R_mono (Kd.R_kept t1 hk (fun k e1 e2 => (ha.1 k e2.symm).1 e1.symm)) s1) (Kd.R_mono (Kd.R_kept t2 hk (fun k e1 e2 => (ha.1 k e2.symm).2 e1.symm)) s2) ha) (fun _ h => h)
 ·intro W' t hk hr
  have hr' := Kd.R_mono (Kd.R_tight rfl hr) s1
  refine Kd.H_back (H_cell hH hk s1) (okp := oki) (a97_mkM W' base oki ⟨(rd_T97 xs i).f0, t, (rd_T97 xs i).f2⟩ (Kd.R_mono (Kd.R_kept t0 hk (fun k e1 e2 => (ha.1 k e1.symm).1 e2.symm)) s0) hr' (Kd.R_mono (Kd.R_kept t2 hk (fun k e1 e2 => ha.2 k e2.symm e1.symm)) s2) ha) (fun _ h => h)
 ·intro W' t hk hr
  have hr' := Kd.R_mono (Kd.R_tight rfl hr) s2
  refine Kd.H_back (H_cell hH hk s2) (okp := oki) (a97_mkM W' base oki ⟨(rd_T97 xs i).f0, (rd_T97 xs i).f1, t⟩ (Kd.R_mono (Kd.R_kept t0 hk (fun k e1 e2 => (ha.1 k e1.symm).2 e2.symm)) s0) (Kd.R_mono (Kd.R_kept t1 hk (fun k e1 e2 => ha.2 k e1.symm e2.symm)) s1) hr' ha) (fun _ h => h)
theorem rd_set97 (xs : List S97) (i : Int) (y : S97) (h : i.toNat < xs.length) : rd_T97 (xs.set i.toNat y) i = y := by
 unfold rd_T97; rw [List.getD_eq_getElem?_getD, List.getElem?_set_self h]; rfl
end
theorem toPageS_calls (k : Nat) (A0 : Option Addr) (c0 : Nat) (l0 : List (S87)) (r : List (S97)) (w : World) (hr0 : Kd.C k87 w A0 l0.length l0) (hc0 : l0.length ≤ c0) (h : laws_toPageS.f k l0 = some r) :
  Calls Try.prog 26 #[.slice A0 l0.length c0] w fun e w' => ∃ v0_ : Value, e = .returned (v0_) ∧ Kd.S a97 97 w' w.heap.size (fun _ => True) v0_ r ∧ Below w.heap.size w w' := by
 have hu87 := Try.underlying87; have hu97 := Try.underlying97; have HR0 := zA hr0; have HC0 := zA hc0; clear hr0 hc0; have HB := zA (Below.refl w.heap.size w); have H : (if 0 ≤ (l0.length : Int) then (if ((l0.length : Int) : Int).toNat ≤ 3909374676536 then (laws_toPageS.l0 k l0 (List.replicate ((l0.length : Int) : Int).toNat z97) 0) else (none)) else (none)) = some r := h; clear h
 by_cases c2 : 0 ≤ (l0.length : Int)
 ·rw [if_pos c2] at H
  have c2b0 := eq_true c2; have c2b1 : decide (0 ≤ (l0.length : Int)) = true := zX c2; clear c2
  by_cases c3 : ((l0.length : Int) : Int).toNat ≤ 3909374676536
  ·rw [if_pos c3] at H
   have c3b0 := eq_true c3; have c3b1 : decide (((l0.length : Int) : Int).toNat ≤ 3909374676536) = true := zX c3; clear c3; obtain ⟨y17, hy17⟩ : ∃ y_ : List (S97), y_ = (List.replicate ((l0.length : Int) : Int).toNat z97) := ⟨_, rfl⟩; replace H : (laws_toPageS.l0 k l0 y17 0) = some r := by first | (rw [hy17]; with_reducible exact H) | (have H2_ := (Option.bind_some _ _).symm.trans H; rw [hy17]; with_reducible exact H2_) | (have H2_ := (Option.bind_some _ _).symm.trans H; with_reducible exact H2_) | with_reducible exact H | (rw [hy17]; exact H) | exact H
   have Ny17 := zA hy17; clear hy17; have H' := zA H; clear H; go_enter Try.func26, Try.ntmps26; go_wp2_with (first | ((with_reducible refine gate_dst (N := 7) rfl ?_); refine Kd.S_make a97 _ 97 rfl (N := 7) rfl 28 _ _ rfl (l0.length : Int) rfl rfl Try.underlying28 (.agg #[(.slice none 0 0), (.slice none 0 0), (.slice none 0 0)]) 72 info97 rfl (by decide) (by omega) z97 (ok := fun _ => True) (okp := fun _ => True) (a97_mkM _ _ _ z97 (Kd.R_nil _ _ _ _ _) (Kd.R_nil _ _ _ _ _) (Kd.R_nil _ _ _ _ _) ap3_nil) (fun _ hk => hk) trivial (zW (by first | (with_reducible assumption) | assumption)) (Nat.le_trans (Nat.mul_le_mul_right _ (zW (by first | (with_reducible assumption) | assumption) : (l0.length : Int).toNat ≤ 3909374676536)) (by omega)) (Below.refl _ _) (Nat.le_refl _) ?_; intro v18 w4 ho5 hb hg_ hnew_; clear hg_ hnew_; (first | rw [← Ny17.out] at ho5 | (simp only [Int.reduceToNat] at ho5; rw [← Ny17.out] at ho5)); have n0_ := zA (Kd.S_lower ho5 (zAE (by repeat (first | (with_reducible first | exact HB.out | apply zH | apply zF | apply zG) | exact HB.out)))); have n1_ := zA (zAD (by repeat (first | (with_reducible first | exact HB.out | apply zH | apply zF | apply zG) | exact HB.out)) hb); clear HB; have HO19 := n0_; have HB := n1_; clear n0_ n1_; clear hb ho5)); go_loopg [4] k (fun kq v4 w' => ∃ (x3_1 : List (S97)) (x4_1 : Int), v4 = .int .i64 x4_1 ∧ Aside0 (laws_toPageS.l0 kq l0 x3_1 x4_1 = some r) ∧ Aside0 (kq ≤ k) ∧ Aside0 (Kd.S a97 97 w' w.heap.size (fun _ => True) v18 x3_1) ∧ Aside0 (Below w.heap.size w w'))
   case atStart => exact ⟨(y17), (0), (by first | rfl | (simp; done) | (simp [*]; done) | (simp [bne]; done)), H', ⟨Nat.le_refl _⟩, ⟨by (with_reducible repeat (first | apply Kd.S_alloc | apply Kd.S_drewN | apply Kd.S_drew)); exact HO19.out⟩, ⟨by repeat (first | (with_reducible first | exact HB.out | apply zH | apply zF | apply zG) | exact HB.out)⟩⟩
   case round =>
    clear H'
    try clear c2
    try clear c2b0
    try clear c2b1
    try clear p2
    try clear c3
    try clear c3b0
    try clear c3b1
    obtain ⟨x3_1, x4_1, rfl, HA, HK1, HO_3, HB⟩ := hrel
    cases gk with
    | zero => exact absurd HA.out (by simp [laws_toPageS.l0])
    | succ k1 =>
     have H := HA.out; clear HA; simp only [laws_toPageS.l0] at H
     by_cases c6 : x4_1 < (l0.length : Int)
     ·rw [if_pos c6] at H
      have c6b0 : decide (x4_1 < (l0.length : Int)) = true := zX c6; clear c6
      by_cases c7 : 0 ≤ x4_1
      ·rw [if_pos c7] at H
       have c7b0 : decide (0 ≤ x4_1) = true := zX c7; clear c7; replace H := zAF H; obtain ⟨⟨t20, t21, t22⟩, A80, H⟩ := H; replace H : (if x4_1 < (x3_1.length : Int) then (laws_toPageS.l0 k1 l0 (x3_1.set (x4_1 : Int).toNat (⟨t20, t21, t22⟩ : S97)) (wrap64 (x4_1 + 1))) else (none)) = some r := H; have A8 := zA A80; clear A80
       by_cases c9 : x4_1 < (x3_1.length : Int)
       ·rw [if_pos c9] at H
        have c9b0 : decide (x4_1 < (x3_1.length : Int)) = true := zX c9; clear c9; obtain ⟨y23, hy23⟩ : ∃ y_ : List (S97), y_ = (x3_1.set (x4_1 : Int).toNat (⟨t20, t21, t22⟩ : S97)) := ⟨_, rfl⟩; replace H : (laws_toPageS.l0 k1 l0 y23 (wrap64 (x4_1 + 1))) = some r := by first | (rw [hy23]; with_reducible exact H) | (have H2_ := (Option.bind_some _ _).symm.trans H; rw [hy23]; with_reducible exact H2_) | (have H2_ := (Option.bind_some _ _).symm.trans H; with_reducible exact H2_) | with_reducible exact H | (rw [hy23]; exact H) | exact H
        have Ny23 := zA hy23; clear hy23; have H' := zA H; clear H; have p24 : 0 ≤ (x4_1 : Int) := zW (by first | (with_reducible assumption) | assumption); have q24 : x4_1 < (l0.length : Int) := zW (by first | (with_reducible assumption) | assumption); obtain ⟨ad24, A24_0, c24_0, A24_1, c24_1, A24_2, c24_2, e24, hx24_0, hx24_1, hx24_2, hl24_0, hi24_0, hl24_1, hi24_1, hl24_2, hi24_2⟩ := at_T87 HR0.out x4_1 p24 q24
        cases e24
        replace hx24_0 := (HB.out.cell (zB w _ hx24_0)).trans hx24_0; replace hx24_1 := (HB.out.cell (zB w _ hx24_1)).trans hx24_1; replace hx24_2 := (HB.out.cell (zB w _ hx24_2)).trans hx24_2; have HR24_0 := zA hi24_0; have HC24_0 := zA hl24_0; clear hi24_0 hl24_0; have HR24_1 := zA hi24_1; have HC24_1 := zA hl24_1; clear hi24_1 hl24_1; have HR24_2 := zA hi24_2; have HC24_2 := zA hl24_2; clear hi24_2 hl24_2; replace p24 := eq_true p24; replace q24 := eq_true q24; go_wp2_with (first | ((with_reducible refine gate_callee (f := 60) rfl ?_); refine goesL_ (some 20) rfl rfl Try.func60 (by kernel_rfl) rfl #[.agg #[.slice A24_0 ((rd_T87 l0 x4_1).f0).length c24_0, .slice A24_1 ((rd_T87 l0 x4_1).f1).length c24_1, .slice A24_2 ((rd_T87 l0 x4_1).f2).length c24_2]] rfl (by (try simp only [zAA, zAB, zAC]); first | done | rfl | (simp only [zZ, zY]; rfl)) ?_; (with_reducible refine (laws_toPage.calls k1 _ _ ((rd_T87 l0 x4_1).f0) _ _ ((rd_T87 l0 x4_1).f1) _ _ ((rd_T87 l0 x4_1).f2) t20 t21 t22 _ ?side1 ?side2 ?side3 ?side4 ?side5 ?side6 A8.out).mono ?_); (case side1 => repeat (first | exact (Kd.C_below HR24_0.out HB.out) | (with_reducible refine zT ?_ _) | (with_reducible refine zU ?_ _) | (with_reducible refine zV ?_))); (case side2 => exact HC24_0.out); (case side3 => repeat (first | exact (Kd.C_below HR24_1.out HB.out) | (with_reducible refine zT ?_ _) | (with_reducible refine zU ?_ _) | (with_reducible refine zV ?_))); (case side4 => exact HC24_1.out); (case side5 => repeat (first | exact (Kd.C_below HR24_2.out HB.out) | (with_reducible refine zT ?_ _) | (with_reducible refine zU ?_ _) | (with_reducible refine zV ?_))); (case side6 => exact HC24_2.out); rintro e w11 ⟨v25, v26, v27, rfl, ho0, ho1, ho2, hb⟩; refine ⟨_, rfl, ?_⟩; have n0_ := zA (Kd.S_mono (Kd.S_told (Kd.S_told (Kd.S_told (Kd.S_old (by (with_reducible repeat (first | apply Kd.S_alloc | apply Kd.S_drewN | apply Kd.S_drew)); exact HO_3.out) hb) (Kd.R_base ho0)) (Kd.R_base ho1)) (Kd.R_base ho2)) (fun _ h_ => h_.1)); have n1_ := zA (Kd.R_lower ho0 (zAE (by repeat (first | (with_reducible first | exact HB.out | apply zH | apply zF | apply zG) | exact HB.out)))); have n2_ := zA (Kd.R_lower ho1 (zAE (by repeat (first | (with_reducible first | exact HB.out | apply zH | apply zF | apply zG) | exact HB.out)))); have n3_ := zA (Kd.R_lower ho2 (zAE (by repeat (first | (with_reducible first | exact HB.out | apply zH | apply zF | apply zG) | exact HB.out)))); have n4_ := zA (zAD (by repeat (first | (with_reducible first | exact HB.out | apply zH | apply zF | apply zG) | exact HB.out)) hb); clear HO_3; clear HB; have HO_3 := n0_; have HO28 := n1_; have HO29 := n2_; have HO30 := n3_; have HB := n4_; clear n0_ n1_ n2_ n3_ n4_; (try clear hb); (try clear ho0); (try clear ho1); (try clear ho2); have p10 : 0 ≤ (x4_1 : Int) := zW (by first | (with_reducible assumption) | assumption); have q10 : (x4_1 : Int) < ((x3_1.length : Int) : Int) := zW (by first | (with_reducible assumption) | assumption); obtain ⟨go10, co10, eo10, gb10, gl10, cl10, HG10⟩ := Kd.S_form HO_3.out (by omega); (first | cases eo10 | (injection eo10 with ea_ en_ ec_; (first | subst ea_ | (injection ea_ with ea_; subst ea_)); subst ec_; clear en_)); have GB10 := zA gb10; have GG10 := zA HG10; clear gb10 gl10 HG10; obtain ⟨_, ce10, hcl10, hM10, hcc10, hfr10, _, _⟩ := Kd.S_elem HO_3.out z97 (x4_1 : Int) p10 q10; obtain ⟨ve10_0, ve10_1, ve10_2, rfl, ge10_0, ge10_1, ge10_2⟩ := a97_openM hM10; have hx10_0 : w11.cell? ⟨go10, (x4_1 : Int).toNat * 3, none⟩ = some (ve10_0) := hcc10 0 _ rfl; have hx10_1 : w11.cell? ⟨go10, (x4_1 : Int).toNat * 3 + 1, none⟩ = some (ve10_1) := hcc10 1 _ rfl; have hx10_2 : w11.cell? ⟨go10, (x4_1 : Int).toNat * 3 + 2, none⟩ = some (ve10_2) := hcc10 2 _ rfl; have hf10_0 : w11.frozen? ⟨go10, (x4_1 : Int).toNat * 3, none⟩ = false := hfr10 0; have hf10_1 : w11.frozen? ⟨go10, (x4_1 : Int).toNat * 3 + 1, none⟩ = false := hfr10 1; have hf10_2 : w11.frozen? ⟨go10, (x4_1 : Int).toNat * 3 + 2, none⟩ = false := hfr10 2; clear hcl10 hcc10 hfr10 hM10; replace p10 := eq_true p10; replace q10 := eq_true q10; obtain ⟨Ao14, co14, eo14⟩ := Kd.R_slice HO28.out; subst eo14; obtain ⟨Ao15, co15, eo15⟩ := Kd.R_slice HO29.out; subst eo15; obtain ⟨Ao16, co16, eo16⟩ := Kd.R_slice HO30.out; subst eo16; have n_ := zA (Kd.S_mono (ok' := (fun k_ => some k_ ≠ (.slice Ao14 t20.length co14 : Value).ownBlock ∧ some k_ ≠ (.slice Ao15 t21.length co15 : Value).ownBlock ∧ some k_ ≠ (.slice Ao16 t22.length co16 : Value).ownBlock)) HO_3.out (fun k_ hk => ⟨hk.1.1.2, ⟨hk.1.2, hk.2⟩⟩)); clear HO_3; have HO_3 := n_; clear n_; have HX12 := zA (show Kd.S a97 97 w11 w.heap.size (fun k_ => ((fun _ => True)) k_ ∧ ¬ ((fun k_ => some k_ = (.slice Ao14 t20.length co14 : Value).ownBlock ∨ some k_ = (.slice Ao15 t21.length co15 : Value).ownBlock ∨ some k_ = (.slice Ao16 t22.length co16 : Value).ownBlock)) k_) (.slice (some ⟨go10, 0, none⟩) x3_1.length co10) x3_1 from (by (with_reducible repeat (first | apply Kd.S_alloc | apply Kd.S_drewN | apply Kd.S_drew)); exact Kd.S_mono HO_3.out (fun k_ hk => ⟨trivial, fun e_ => e_.elim (fun h_ => hk.1 h_) (fun h_ => h_.elim (fun h_ => hk.2.1 h_) (fun h_ => hk.2.2 h_))⟩))); obtain ⟨oki12, ce12, hcl12, hM12, hcc12, hfr12, hoki12, hH12⟩ := Kd.S_elem HX12.out z97 (x4_1 : Int) (zW (by first | (with_reducible assumption) | assumption)) (by have h_ : (x4_1 : Int) < ((x3_1.length : Int) : Int) := zW (by first | (with_reducible assumption) | assumption); first | exact h_ | (have e_ := (Kd.S_reads' HO_3.out).1; omega) | simpa using h_); obtain ⟨ve12_0, ve12_1, ve12_2, rfl, ge12_0, ge12_1, ge12_2⟩ := a97_openM hM12; have HP12 := Kd.S_seg hH12 (zW (by first | (with_reducible assumption) | assumption)) (by have h_ : (x4_1 : Int) < ((x3_1.length : Int) : Int) := zW (by first | (with_reducible assumption) | assumption); first | exact h_ | (have e_ := (Kd.S_reads' HO_3.out).1; omega) | simpa using h_) (seg := [.slice Ao14 t20.length co14, .slice Ao15 t21.length co15, .slice Ao16 t22.length co16]) (j := 0) (show 3 ≤ 3 from by decide) (x' := (⟨t20, t21, t22⟩ : S97)) (a97_mkM _ _ _ (⟨t20, t21, t22⟩ : S97) (Kd.R_mono (Kd.R_tight rfl (Kd.R_mono (ok' := fun k_ => ((fun _ => True)) k_ ∧ k_ ≠ go10) (Kd.R_apart' (HO28.out) (Kd.S_typed HO_3.out) (by decide)) (fun k_ hk => ⟨trivial, fun e_ => (hk.2) (by rw [e_]; rfl)⟩))) (fun _ h_ => Or.inr (Or.inl h_))) (Kd.R_mono (Kd.R_tight rfl (Kd.R_mono (ok' := fun k_ => ((fun _ => True)) k_ ∧ k_ ≠ go10) (Kd.R_apart' (HO29.out) (Kd.S_typed HO_3.out) (by decide)) (fun k_ hk => ⟨trivial, fun e_ => (hk.2) (by rw [e_]; rfl)⟩))) (fun _ h_ => Or.inr (Or.inr (Or.inl h_)))) (Kd.R_mono (Kd.R_tight rfl (Kd.R_mono (ok' := fun k_ => ((fun _ => True)) k_ ∧ k_ ≠ go10) (Kd.R_apart' (HO30.out) (Kd.S_typed HO_3.out) (by decide)) (fun k_ hk => ⟨trivial, fun e_ => (hk.2) (by rw [e_]; rfl)⟩))) (fun _ h_ => Or.inr (Or.inr (Or.inr (h_))))) ⟨fun k_ hk_ => ⟨fun e_ => (HO28.out.1 k_ hk_) e_.symm, ne_types HO28.out HO30.out k_ hk_⟩, fun k_ hk_ => ne_types HO29.out HO30.out k_ hk_⟩) (fun _ hk => hk) (fun k_ hk_ => hk_.elim (fun h_ => ((Kd.R_mono (ok' := fun k_ => ((fun _ => True)) k_ ∧ k_ ≠ go10) (Kd.R_apart' (HO28.out) (Kd.S_typed HO_3.out) (by decide)) (fun k_ hk => ⟨trivial, fun e_ => (hk.2) (by rw [e_]; rfl)⟩))).1 k_ h_.symm) (fun h_ => h_.elim (fun h_ => ((Kd.R_mono (ok' := fun k_ => ((fun _ => True)) k_ ∧ k_ ≠ go10) (Kd.R_apart' (HO29.out) (Kd.S_typed HO_3.out) (by decide)) (fun k_ hk => ⟨trivial, fun e_ => (hk.2) (by rw [e_]; rfl)⟩))).1 k_ h_.symm) (fun h_ => ((Kd.R_mono (ok' := fun k_ => ((fun _ => True)) k_ ∧ k_ ≠ go10) (Kd.R_apart' (HO30.out) (Kd.S_typed HO_3.out) (by decide)) (fun k_ hk => ⟨trivial, fun e_ => (hk.2) (by rw [e_]; rfl)⟩))).1 k_ h_.symm))); have hx12_0 := hcc12 0 _ rfl; (try simp only [show (a97).sz = 3 from rfl, Nat.mul_one, Nat.add_zero] at hx12_0); have hf12_0 := hfr12 0; (try simp only [show (a97).sz = 3 from rfl, Nat.mul_one, Nat.add_zero] at hf12_0); have hx12_1 := hcc12 1 _ rfl; (try simp only [show (a97).sz = 3 from rfl, Nat.mul_one, Nat.add_zero] at hx12_1); have hf12_1 := hfr12 1; (try simp only [show (a97).sz = 3 from rfl, Nat.mul_one, Nat.add_zero] at hf12_1); have hx12_2 := hcc12 2 _ rfl; (try simp only [show (a97).sz = 3 from rfl, Nat.mul_one, Nat.add_zero] at hx12_2); have hf12_2 := hfr12 2; (try simp only [show (a97).sz = 3 from rfl, Nat.mul_one, Nat.add_zero] at hf12_2); clear hcl12 hcc12 hfr12 hM12 hoki12 hH12) | ((with_reducible refine gate_store (t := 97) (p := 21) rfl ?_); refine store_event (t := 97) (p := 21) (v := ?vo_w13) (w1 := (((w11.setCell ⟨go10, (x4_1 : Int).toNat * 3, none⟩ (.slice Ao14 t20.length co14)).setCell ⟨go10, (x4_1 : Int).toNat * 3 + 1, none⟩ (.slice Ao15 t21.length co15)).setCell ⟨go10, (x4_1 : Int).toNat * 3 + 2, none⟩ (.slice Ao16 t22.length co16))) ?hg ?ho ?hn ?hr ?_; (case ho => rfl); (case hg => rfl); (case hn => rfl); (case hr => first | (go_simp; done) | (go_simp; rfl)); intro w13 hw; have hg : w11.grownBy w13 (some go10) := (by rw [hw]; exact HP12.2); have hp_ : Kd.S a97 97 w13 w.heap.size (fun _ => True) (.slice (some ⟨go10, 0, none⟩) x3_1.length co10) y23 := (by rw [hw, Ny23.out]; exact HP12.1); clear HP12; have n0_ := zA (hp_); have n1_ := zA ((by rw [hw]; exact zI (zI (zI (HB.out) GB10.out) GB10.out) GB10.out : Below w.heap.size w w13)); clear HO_3; clear HB; clear HO28; clear HO29; clear HO30; have HO_3 := n0_; have HB := n1_; clear n0_ n1_; clear hg hw hp_))
        go_roundg k1
        case measure => have := HK1.out; omega
        case rel => exact ⟨(y23), (wrap64 (x4_1 + 1)), (by first | rfl | (simp; done) | (simp [*]; done) | (simp [bne]; done)), H', ⟨by have := HK1.out; omega⟩, ⟨by (with_reducible repeat (first | apply Kd.S_alloc | apply Kd.S_drewN | apply Kd.S_drew)); exact HO_3.out⟩, ⟨by repeat (first | (with_reducible first | exact HB.out | apply zH | apply zF | apply zG) | exact HB.out)⟩⟩
       ·rw [if_neg c9] at H
        exact absurd H (by simp)
      ·rw [if_neg c7] at H
       exact absurd H (by simp)
     ·rw [if_neg c6] at H
      have c6b0 : decide (x4_1 < (l0.length : Int)) = false := decide_eq_false c6; clear c6; obtain rfl := Option.some.inj H; go_wp2; go_ret; exact ⟨_, by first | rfl | (simp <;> rfl) | (simp [*] <;> rfl), by (with_reducible repeat (first | apply Kd.S_alloc | apply Kd.S_drewN | apply Kd.S_drew)); exact HO_3.out, by repeat (first | (with_reducible first | exact HB.out | apply zH | apply zF | apply zG) | exact HB.out)⟩
  ·rw [if_neg c3] at H
   exact absurd H (by simp)
 ·rw [if_neg c2] at H
  exact absurd H (by simp)
theorem toTree_calls (k : Nat) (A0_0 : Option Addr) (c0_0 : Nat) (l0_0 : List (S87)) (r : List (S97)) (w : World) (hr0_0 : Kd.C k87 w A0_0 l0_0.length l0_0) (hc0_0 : l0_0.length ≤ c0_0) (h : laws_toTree.f k l0_0 = some r) :
  Calls Try.prog 8 #[.agg #[.slice A0_0 l0_0.length c0_0]] w fun e w' => ∃ v0_ : Value, e = .returned (.agg #[v0_]) ∧ Kd.S a97 97 w' w.heap.size (fun _ => True) v0_ r ∧ Below w.heap.size w w' := by
 have hu24 := Try.underlying24; have hu30 := Try.underlying30; have HR0_0 := zA hr0_0; have HC0_0 := zA hc0_0; clear hr0_0 hc0_0; have HB := zA (Below.refl w.heap.size w); have H : ((laws_toPageS.f k l0_0).bind fun t14 => (some t14)) = some r := h; clear h; replace H := zAF H; obtain ⟨t14, A20, H⟩ := H; replace H : (some t14) = some r := H; have A2 := zA A20; clear A20; obtain rfl := Option.some.inj H; go_enter Try.func8, Try.ntmps8; go_wp2_with (first | ((with_reducible refine gate_dst (N := 1) rfl ?_); refine box_event ?hg (N := 1) ?hd (cs := #[.slice A0_0 l0_0.length c0_0]) (t := 24) ?hr ?_; (case hd => rfl); (case hg => rfl); (case hr => first | (go_simp; done) | (go_simp; rfl)); intro gb15 hg w3 hbox hb; have n0_ := zA (zAD (by repeat (first | (with_reducible first | exact HB.out | apply zH | apply zF | apply zG) | exact HB.out)) hb); have n1_ := zA (hbox); have n2_ := zA ((by rw [hg]; exact (zAE (by repeat (first | (with_reducible first | exact HB.out | apply zH | apply zF | apply zG) | exact HB.out))) : w.heap.size ≤ gb15)); have n3_ := zA ((by rw [hg]; exact (zAE (by repeat (first | (with_reducible first | exact HB.out | apply zH | apply zF | apply zG) | exact HB.out))) : w.heap.size ≤ gb15)); clear HB; have HB := n0_; have BK15 := n1_; have GW15 := n2_; have GE15 := n3_; clear n0_ n1_ n2_ n3_; clear hb hbox hg) | ((with_reducible refine gate_dst (N := 2) rfl ?_); refine box_event ?hg (N := 2) ?hd (cs := #[.slice none 0 0]) (t := 30) ?hr ?_; (case hd => rfl); (case hg => rfl); (case hr => first | (go_simp; done) | (go_simp; rfl)); intro gb16 hg w4 hbox hb; have n0_ := zA (blk_below (g := gb15) (o := .cells #[.slice A0_0 l0_0.length c0_0] 24 (0, 0)) (by (with_reducible repeat (first | refine zL ?_ _ | refine zN ?_ | refine zM ?_ _)); exact BK15.out) hb); have n1_ := zA (zAD (by repeat (first | (with_reducible first | exact HB.out | apply zH | apply zF | apply zG | refine zI ?_ GE15.out) | exact HB.out)) hb); have n2_ := zA (hbox); have n3_ := zA ((by rw [hg]; exact (zAE (by repeat (first | (with_reducible first | exact HB.out | apply zH | apply zF | apply zG | refine zI ?_ GE15.out) | exact HB.out))) : w.heap.size ≤ gb16)); have n4_ := zA ((by rw [hg]; exact (zAE (by repeat (first | (with_reducible first | exact HB.out | apply zH | apply zF | apply zG | refine zI ?_ GE15.out) | exact HB.out))) : w.heap.size ≤ gb16)); have n5_ := zA ((by rw [hg]; exact zK (blk_lt (g := gb15) (o := .cells #[.slice A0_0 l0_0.length c0_0] 24 (0, 0)) (by (with_reducible repeat (first | refine zL ?_ _ | refine zN ?_ | refine zM ?_ _)); exact BK15.out)) : gb15 ≠ gb16)); have n6_ := zA ((by rw [hg]; exact Nat.ne_of_gt (blk_lt (g := gb15) (o := .cells #[.slice A0_0 l0_0.length c0_0] 24 (0, 0)) (by (with_reducible repeat (first | refine zL ?_ _ | refine zN ?_ | refine zM ?_ _)); exact BK15.out)) : gb16 ≠ gb15)); clear BK15; clear HB; have BK15 := n0_; have HB := n1_; have BK16 := n2_; have GW16 := n3_; have GE16 := n4_; have NB15_16 := n5_; have NB16_15 := n6_; clear n0_ n1_ n2_ n3_ n4_ n5_ n6_; clear hb hbox hg) | ((with_reducible refine gate_dst (N := 3) rfl ?_); refine box_event ?hg (N := 3) ?hd (cs := #[.slice none 0 0]) (t := 30) ?hr ?_; (case hd => rfl); (case hg => rfl); (case hr => first | (go_simp; done) | (go_simp; rfl)); intro gb17 hg w5 hbox hb; have n0_ := zA (blk_below (g := gb15) (o := .cells #[.slice A0_0 l0_0.length c0_0] 24 (0, 0)) (by (with_reducible repeat (first | refine zL ?_ _ | refine zN ?_ | refine zM ?_ _)); exact BK15.out) hb); have n1_ := zA (blk_below (g := gb16) (o := .cells #[.slice none 0 0] 30 (0, 0)) (by (with_reducible repeat (first | refine zL ?_ _ | refine zN ?_ | refine zM ?_ _)); exact BK16.out) hb); have n2_ := zA (zAD (by repeat (first | (with_reducible first | exact HB.out | apply zH | apply zF | apply zG | refine zI ?_ GE15.out | refine zI ?_ GE16.out) | exact HB.out)) hb); have n3_ := zA (hbox); have n4_ := zA ((by rw [hg]; exact (zAE (by repeat (first | (with_reducible first | exact HB.out | apply zH | apply zF | apply zG | refine zI ?_ GE15.out | refine zI ?_ GE16.out) | exact HB.out))) : w.heap.size ≤ gb17)); have n5_ := zA ((by rw [hg]; exact (zAE (by repeat (first | (with_reducible first | exact HB.out | apply zH | apply zF | apply zG | refine zI ?_ GE15.out | refine zI ?_ GE16.out) | exact HB.out))) : w.heap.size ≤ gb17)); have n6_ := zA ((by rw [hg]; exact zK (blk_lt (g := gb15) (o := .cells #[.slice A0_0 l0_0.length c0_0] 24 (0, 0)) (by (with_reducible repeat (first | refine zL ?_ _ | refine zN ?_ | refine zM ?_ _)); exact BK15.out)) : gb15 ≠ gb17)); have n7_ := zA ((by rw [hg]; exact Nat.ne_of_gt (blk_lt (g := gb15) (o := .cells #[.slice A0_0 l0_0.length c0_0] 24 (0, 0)) (by (with_reducible repeat (first | refine zL ?_ _ | refine zN ?_ | refine zM ?_ _)); exact BK15.out)) : gb17 ≠ gb15)); have n8_ := zA ((by rw [hg]; exact zK (blk_lt (g := gb16) (o := .cells #[.slice none 0 0] 30 (0, 0)) (by (with_reducible repeat (first | refine zL ?_ _ | refine zN ?_ | refine zM ?_ _)); exact BK16.out)) : gb16 ≠ gb17)); have n9_ := zA ((by rw [hg]; exact Nat.ne_of_gt (blk_lt (g := gb16) (o := .cells #[.slice none 0 0] 30 (0, 0)) (by (with_reducible repeat (first | refine zL ?_ _ | refine zN ?_ | refine zM ?_ _)); exact BK16.out)) : gb17 ≠ gb16)); clear BK15; clear BK16; clear HB; have BK15 := n0_; have BK16 := n1_; have HB := n2_; have BK17 := n3_; have GW17 := n4_; have GE17 := n5_; have NB15_17 := n6_; have NB17_15 := n7_; have NB16_17 := n8_; have NB17_16 := n9_; clear n0_ n1_ n2_ n3_ n4_ n5_ n6_ n7_ n8_ n9_; clear hb hbox hg; have hnb6 := NB15_16.out; have hnc6 := NB16_15.out; have hnb7 := NB15_17.out; have hnc7 := NB17_15.out; have hcz8_0 : w5.cell? ⟨gb15, 0, none⟩ = some (.slice A0_0 l0_0.length c0_0) := (zP BK15.out 0).trans rfl; have hfz8_0 := zO BK15.out 0) | ((with_reducible refine gate_callee (f := 26) rfl ?_); refine goesL_ (some 6) rfl rfl Try.func26 (by kernel_rfl) rfl #[.slice A0_0 l0_0.length c0_0] rfl (by (try simp only [zAA, zAB, zAC]); first | done | rfl | (simp only [zZ, zY]; rfl)) ?_; (with_reducible refine (toPageS_calls k _ _ l0_0 t14 _ ?side1 ?side2 A2.out).mono ?_); (case side1 => repeat (first | exact (Kd.C_below HR0_0.out HB.out) | (with_reducible refine zT ?_ _) | (with_reducible refine zU ?_ _) | (with_reducible refine zV ?_))); (case side2 => exact HC0_0.out); rintro e w9 ⟨v18, rfl, ho0, hb⟩; refine ⟨_, rfl, ?_⟩; have n0_ := zA (Kd.S_lower ho0 (zAE (by repeat (first | (with_reducible first | exact HB.out | apply zH | apply zF | apply zG | refine zI ?_ GE15.out | refine zI ?_ GE16.out | refine zI ?_ GE17.out) | exact HB.out)))); have n1_ := zA (blk_below (g := gb15) (o := .cells #[.slice A0_0 l0_0.length c0_0] 24 (0, 0)) (by (with_reducible repeat (first | refine zL ?_ _ | refine zN ?_ | refine zM ?_ _)); exact BK15.out) hb); have n2_ := zA (blk_below (g := gb16) (o := .cells #[.slice none 0 0] 30 (0, 0)) (by (with_reducible repeat (first | refine zL ?_ _ | refine zN ?_ | refine zM ?_ _)); exact BK16.out) hb); have n3_ := zA (blk_below (g := gb17) (o := .cells #[.slice none 0 0] 30 (0, 0)) (by (with_reducible repeat (first | refine zL ?_ _ | refine zN ?_ | refine zM ?_ _)); exact BK17.out) hb); have n4_ := zA (zAD (by repeat (first | (with_reducible first | exact HB.out | apply zH | apply zF | apply zG | refine zI ?_ GE15.out | refine zI ?_ GE16.out | refine zI ?_ GE17.out) | exact HB.out)) hb); clear BK15; clear BK16; clear BK17; clear HB; have HO19 := n0_; have BK15 := n1_; have BK16 := n2_; have BK17 := n3_; have HB := n4_; clear n0_ n1_ n2_ n3_ n4_; (try clear hb); (try clear ho0); obtain ⟨Ao10, co10, eo10⟩ := Kd.S_slice HO19.out; subst eo10; have hnb11 := NB17_16.out; have hnc11 := NB16_17.out; have hcz12_0 : w9.cell? ⟨gb17, 0, none⟩ = some (.slice none 0 0) := (zP BK17.out 0).trans rfl; have hfz12_0 := zO BK17.out 0; have hcz13_0 : w9.cell? ⟨gb16, 0, none⟩ = some (.slice none 0 0) := (zP BK16.out 0).trans rfl; have hfz13_0 := zO BK16.out 0))
 refine bodyPost_ret (results_cell_row rfl _ _ gb16 30 #[.slice Ao10 t14.length co10] (0, 0) _ rfl (by (with_reducible repeat (first | refine zL ?_ _ | refine zN ?_ | refine zM ?_ _)); refine blk_put (cs := #[.slice none 0 0]) ?_ 0 _ rfl; (with_reducible repeat (first | refine zL ?_ _ | refine zN ?_ | refine zM ?_ _)); refine blk_far ?_ NB16_17.out _; (with_reducible repeat (first | refine zL ?_ _ | refine zN ?_ | refine zM ?_ _)); exact BK16.out) Try.underlying30 rfl (by kernel_rfl)) rfl ?_; exact ⟨_, by first | rfl | (simp <;> rfl) | (simp [*] <;> rfl), by (with_reducible repeat (first | apply Kd.S_alloc | apply Kd.S_drewN | apply Kd.S_drew)); exact Kd.S_mono (Kd.S_far (p := ⟨gb16, 0, none⟩) (Kd.S_far (p := ⟨gb17, 0, none⟩) (Kd.S_types (Kd.S_types HO19.out BK17.out (by decide)) BK16.out (by decide)) (fun _ hk => hk.1.2) (.slice Ao10 t14.length co10)) (fun _ hk => hk.2) (.slice Ao10 t14.length co10)) (fun _ hk => trivial), by repeat (first | (with_reducible first | exact HB.out | apply zH | apply zF | apply zG | refine zI ?_ GE15.out | refine zI ?_ GE16.out | refine zI ?_ GE17.out) | exact HB.out)⟩
end Go.Proofs.Ytnplghcbdaiogaa.RF
end
