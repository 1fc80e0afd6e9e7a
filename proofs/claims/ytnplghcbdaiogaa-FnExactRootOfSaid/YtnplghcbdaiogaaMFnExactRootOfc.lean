/- For the law FnExactRootOf (laid by merge.py). -/
import Derived.Test.YtnplghcbdaiogaaMFnExactRootOfb
section
namespace Go.Proofs.Ytnplghcbdaiogaa.PA
open Go.RowKit Go.Proofs.YtnplghcbdaiogaaW.PrintWords Go.Proofs.YtnplghcbdaiogaaW.PrintLast Go.Proofs.YtnplghcbdaiogaaW.PrintMore
attribute [local go_sem] max2_int min2_int max_two min_two max_three min_three max_four min_four
set_option linter.unusedVariables false
set_option linter.unusedSimpArgs false
set_option maxHeartbeats 60000000
set_option maxRecDepth 100000
def impl_newMix.f (a0 : Int) : Option (Int × Int × Int) := some (wrap64 ((wrap64 (a0)) + 1), wrap64 ((wrap64 (a0)) + 1), 0)
theorem impl_newMix.calls (a0 : Int) (r1 : Int) (r2 : Int) (r3 : Int) (w : World) (h : impl_newMix.f a0 = some (r1, r2, r3)) :
  Calls Try.prog 88 #[.int .u8 a0] w fun e w' => e = .returned (.agg #[.int .i64 r1, .int .i64 r2, .int .i64 r3]) ∧ Below w.heap.size w w' := by
 have hu114 := Try.underlying114; have HB := zA (Below.refl w.heap.size w); have H : (some (wrap64 ((wrap64 (a0)) + 1), wrap64 ((wrap64 (a0)) + 1), 0)) = some (r1, r2, r3) := h; clear h; simp only [Option.some.injEq, Prod.mk.injEq] at H; obtain ⟨rfl, rfl, rfl⟩ := H; go_enter Try.func88, Try.ntmps88; go_wp2_with (first | ((with_reducible refine gate_dst (N := 2) rfl ?_); refine box_event ?hg (N := 2) ?hd (cs := #[.int .i64 0, .int .i64 0, .int .i64 0]) (t := 114) ?hr ?_; (case hd => rfl); (case hg => rfl); (case hr => first | (go_simp; done) | (go_simp; rfl)); intro gb10 hg w2 hbox hb; have n0_ := zA (zAD (by (with_reducible repeat first | exact HB.out | apply zH | apply zF | apply zG) <;> exact HB.out) hb); have n1_ := zA (hbox); have n2_ := zA ((by rw [hg]; exact (zAE (by (with_reducible repeat first | exact HB.out | apply zH | apply zF | apply zG) <;> exact HB.out)) : w.heap.size ≤ gb10)); have n3_ := zA ((by rw [hg]; exact (zAE (by (with_reducible repeat first | exact HB.out | apply zH | apply zF | apply zG) <;> exact HB.out)) : w.heap.size ≤ gb10)); clear HB; have HB := n0_; have BK10 := n1_; have GW10 := n2_; have GE10 := n3_; clear n0_ n1_ n2_ n3_; clear hb hbox hg; have hcz3_0 := yL BK10.out 0 (.int .i64 0) rfl; have hcz3_1 := yL BK10.out 1 (.int .i64 0) rfl; have hcz3_2 := yL BK10.out 2 (.int .i64 0) rfl; have hfz3_0 := zO BK10.out 0; have hfz3_1 := zO BK10.out 1; have hfz3_2 := zO BK10.out 2)); refine bodyPost_ret (results_cell_row rfl _ _ gb10 114 #[.int .i64 (wrap64 ((wrap64 (a0)) + 1)), .int .i64 (wrap64 ((wrap64 (a0)) + 1)), .int .i64 0] (0, 0) _ rfl (by (with_reducible repeat (first | refine zL ?_ _ | refine zN ?_ | refine zM ?_ _)); refine blk_put (cs := #[.int .i64 (wrap64 ((wrap64 (a0)) + 1)), .int .i64 (wrap64 ((wrap64 (a0)) + 1)), .int .i64 0]) ?_ 2 _ rfl; (with_reducible repeat (first | refine zL ?_ _ | refine zN ?_ | refine zM ?_ _)); refine blk_put (cs := #[.int .i64 (wrap64 ((wrap64 (a0)) + 1)), .int .i64 0, .int .i64 0]) ?_ 1 _ rfl; (with_reducible repeat (first | refine zL ?_ _ | refine zN ?_ | refine zM ?_ _)); refine blk_put (cs := #[.int .i64 0, .int .i64 0, .int .i64 0]) ?_ 0 _ rfl; (with_reducible repeat (first | refine zL ?_ _ | refine zN ?_ | refine zM ?_ _)); exact BK10.out) Try.underlying114 rfl (by kernel_rfl)) rfl ?_; exact ⟨by first | rfl | (simp <;> rfl) | (simp [*] <;> rfl), by repeat (first | (with_reducible first | exact HB.out | apply zH | apply zF | apply zG | refine zI ?_ GE10.out) | exact HB.out)⟩
def impl_Mix_feed.l0 : Nat → ByteArray → Int → Int → Int → Int → Int → Option (Int × Int × Int)
 | 0, _, _, _, _, _, _ => none
 | k + 1, x1, x7, x8, x10, x11, x12 => if x8 < x7 then (if 0 ≤ x8 then (if x8 < (x1.size : Int) then (impl_Mix_feed.l0 k x1 x7 (wrap64 (x8 + 1)) (Int.tmod (wrap64 (x10 + (wrap64 (bt x1 x8)))) 65521) (Int.tmod (wrap64 (x11 + (Int.tmod (wrap64 (x10 + (wrap64 (bt x1 x8)))) 65521))) 65521) x12) else (none)) else (none)) else (some (x10, x11, wrap64 (x12 + (x1.size : Int))))
def impl_Mix_feed.f (k : Nat) (a0_0 : Int) (a0_1 : Int) (a0_2 : Int) (a1 : ByteArray) : Option (Int × Int × Int) := impl_Mix_feed.l0 k a1 (a1.size : Int) 0 a0_0 a0_1 a0_2
def impl_Mix_feed.T4 : Bool × List (List Nat × List Nat) := (true, [([], []), ([0], [0]), ([], []), ([], []), ([2, 3], [2, 3]), ([4], [4]), ([1, 5], [1, 5]), ([6], [6]), ([0, 1, 2, 3, 4, 5, 6, 7], []), ([8, 7, 0, 1, 2, 3, 4, 5, 6, 7], [7, 8])])
def impl_Mix_feed.B4 : List Nat := [0, 1, 0, 0, 12, 28, 63, 127, 255, 511]
theorem impl_Mix_feed.tab4 : rtab .any (opsOf Try.f89 4) = impl_Mix_feed.T4 := by kernel_rfl
theorem impl_Mix_feed.bits4 : waitsOk impl_Mix_feed.T4.2 impl_Mix_feed.B4 = true := by kernel_rfl
theorem impl_Mix_feed.calls (k : Nat) (a0_0 : Int) (a0_1 : Int) (a0_2 : Int) (a1 : ByteArray) (r1 : Int) (r2 : Int) (r3 : Int) (w : World) (h : impl_Mix_feed.f k a0_0 a0_1 a0_2 a1 = some (r1, r2, r3)) :
  Calls Try.prog 89 #[.agg #[.int .i64 a0_0, .int .i64 a0_1, .int .i64 a0_2], .string a1] w fun e w' => e = .returned (.agg #[.int .i64 r1, .int .i64 r2, .int .i64 r3]) ∧ Below w.heap.size w w' := by
 have hu114 := Try.underlying114; have HB := zA (Below.refl w.heap.size w); have H : (impl_Mix_feed.l0 k a1 (a1.size : Int) 0 a0_0 a0_1 a0_2) = some (r1, r2, r3) := h; clear h; have H' := zA H; clear H; go_enter Try.func89, Try.ntmps89; go_wp2_with (first | ((with_reducible refine gate_dst (N := 2) rfl ?_); refine box_event ?hg (N := 2) ?hd (cs := #[.int .i64 a0_0, .int .i64 a0_1, .int .i64 a0_2]) (t := 114) ?hr ?_; (case hd => rfl); (case hg => rfl); (case hr => first | (go_simp; done) | (go_simp; rfl)); intro gb16 hg w3 hbox hb; have n0_ := zA (zAD (by (with_reducible repeat first | exact HB.out | apply zH | apply zF | apply zG) <;> exact HB.out) hb); have n1_ := zA (hbox); have n2_ := zA ((by rw [hg]; exact (zAE (by (with_reducible repeat first | exact HB.out | apply zH | apply zF | apply zG) <;> exact HB.out)) : w.heap.size ≤ gb16)); have n3_ := zA ((by rw [hg]; exact (zAE (by (with_reducible repeat first | exact HB.out | apply zH | apply zF | apply zG) <;> exact HB.out)) : w.heap.size ≤ gb16)); clear HB; have HB := n0_; have BK16 := n1_; have GW16 := n2_; have GE16 := n3_; clear n0_ n1_ n2_ n3_; clear hb hbox hg) | ((with_reducible refine gate_dst (N := 4) rfl ?_); refine box_event ?hg (N := 4) ?hd (cs := #[.int .i64 0, .int .i64 0, .int .i64 0]) (t := 114) ?hr ?_; (case hd => rfl); (case hg => rfl); (case hr => first | (go_simp; done) | (go_simp; rfl)); intro gb17 hg w4 hbox hb; have n0_ := zA (yE (g := gb16) (o := .cells #[.int .i64 a0_0, .int .i64 a0_1, .int .i64 a0_2] 114 (0, 0)) (by (with_reducible repeat (first | refine zL ?_ _ | refine zN ?_ | refine zM ?_ _)); exact BK16.out) hb); have n1_ := zA (zAD (by repeat (first | (with_reducible first | exact HB.out | apply zH | apply zF | apply zG | refine zI ?_ GE16.out) | exact HB.out)) hb); have n2_ := zA (hbox); have n3_ := zA ((by rw [hg]; exact (zAE (by repeat (first | (with_reducible first | exact HB.out | apply zH | apply zF | apply zG | refine zI ?_ GE16.out) | exact HB.out))) : w.heap.size ≤ gb17)); have n4_ := zA ((by rw [hg]; exact (zAE (by repeat (first | (with_reducible first | exact HB.out | apply zH | apply zF | apply zG | refine zI ?_ GE16.out) | exact HB.out))) : w.heap.size ≤ gb17)); have n5_ := zA ((by rw [hg]; exact zK (blk_lt (g := gb16) (o := .cells #[.int .i64 a0_0, .int .i64 a0_1, .int .i64 a0_2] 114 (0, 0)) (by (with_reducible repeat (first | refine zL ?_ _ | refine zN ?_ | refine zM ?_ _)); exact BK16.out)) : gb16 ≠ gb17)); have n6_ := zA ((by rw [hg]; exact Nat.ne_of_gt (blk_lt (g := gb16) (o := .cells #[.int .i64 a0_0, .int .i64 a0_1, .int .i64 a0_2] 114 (0, 0)) (by (with_reducible repeat (first | refine zL ?_ _ | refine zN ?_ | refine zM ?_ _)); exact BK16.out)) : gb17 ≠ gb16)); clear BK16; clear HB; have BK16 := n0_; have HB := n1_; have BK17 := n2_; have GW17 := n3_; have GE17 := n4_; have NB16_17 := n5_; have NB17_16 := n6_; clear n0_ n1_ n2_ n3_ n4_ n5_ n6_; clear hb hbox hg)); go_loopg [8] k (fun kq v8 w' => ∃ (x8_1 : Int) (x18_1 : Int) (x19_1 : Int), v8 = .int .i64 x8_1 ∧ Aside0 (impl_Mix_feed.l0 kq a1 (a1.size : Int) x8_1 x18_1 x19_1 a0_2 = some (r1, r2, r3)) ∧ Aside0 (kq ≤ k) ∧ Aside0 (w'.heap[gb16]? = some (.cells #[.int .i64 x18_1, .int .i64 x19_1, .int .i64 a0_2] 114 (0, 0))) ∧ Aside0 (w'.heap[gb17]? = some (.cells #[.int .i64 0, .int .i64 0, .int .i64 0] 114 (0, 0))) ∧ Aside0 (Below w.heap.size w w'))
 case atStart => exact ⟨(0), (a0_0), (a0_1), (by first | rfl | (simp; done) | (simp [*]; done) | (simp [bne]; done)), H', ⟨Nat.le_refl _⟩, ⟨by (with_reducible repeat (first | refine zL ?_ _ | refine zN ?_ | refine zM ?_ _)); exact BK16.out⟩, ⟨by (with_reducible repeat (first | refine zL ?_ _ | refine zN ?_ | refine zM ?_ _)); exact BK17.out⟩, ⟨by repeat (first | (with_reducible first | exact HB.out | apply zH | apply zF | apply zG | refine zI ?_ GE16.out | refine zI ?_ GE17.out) | exact HB.out)⟩⟩
 case round =>
  clear H'
  try clear p2
  obtain ⟨x8_1, x18_1, x19_1, rfl, HA, HK1, BK16, BK17, HB⟩ := hrel
  cases gk with
  | zero => exact absurd HA.out (by simp [impl_Mix_feed.l0])
  | succ k1 =>
   have H := HA.out; clear HA; simp only [impl_Mix_feed.l0] at H
   by_cases c5 : x8_1 < (a1.size : Int)
   ·rw [if_pos c5] at H
    have c5b0 : decide (x8_1 < (a1.size : Int)) = true := zX c5; clear c5
    by_cases c6 : 0 ≤ x8_1
    ·rw [if_pos c6] at H
     have c6b0 : decide (0 ≤ x8_1) = true := zX c6; clear c6
     by_cases c7 : x8_1 < (a1.size : Int)
     ·rw [if_pos c7] at H
      have c7b0 : decide (x8_1 < (a1.size : Int)) = true := zX c7; clear c7; have H' := zA H; clear H
      try go_wp2
      have n0_ := zA (zN BK16.out); have n1_ := zA (zN BK17.out); have n2_ := zA (zG HB.out); clear BK16 BK17 HB; have BK16 := n0_; have BK17 := n1_; have HB := n2_; clear n0_ n1_ n2_; have p8 : 0 ≤ (x8_1 : Int) := zW (by first | (with_reducible assumption) | assumption); have q8 : x8_1 < (a1.size : Int) := zW (by first | (with_reducible assumption) | assumption); have hx8 := bt_at a1 x8_1; replace p8 := eq_true p8; replace q8 := eq_true q8; refine start_ (n := 10) (S := fun w' => w'.cell? ⟨gb16, 0, none⟩ = some (.int .i64 x18_1) ∧ w'.cell? ⟨gb16, 1, none⟩ = some (.int .i64 x19_1) ∧ w'.cell? ⟨gb16, 2, none⟩ = some (.int .i64 a0_2)) (ds := [9]) #[false, false, false, false, false, false, false, false, false, false] (by kernel_rfl) rfl rfl ⟨(zP BK16.out 0).trans rfl, (zP BK16.out 1).trans rfl, (zP BK16.out 2).trans rfl⟩ (fun hHeld => ?_); refine with_tabW impl_Mix_feed.tab4 impl_Mix_feed.bits4 (fun HT_ HW_ => ?_); generalize wr.drew = w9 at BK16 BK17 HB hHeld ⊢; refine pure_ (i := 0) (N := some 11) (v := ?_) (a' := ?_) #[true, false, false, false, false, false, false, false, false, false] rfl rfl (any_of HT_.out (by kernel_rfl)) (fun _ _ _ h => h) (Or.inl ⟨by rfl, ?_⟩) ?_ ?_; rotate_left
      ·intro w'
       go_simp
       with_reducible rfl
      rotate_left
      ·simp only [Act.put, zC, zD, zE, i64_w]
       rfl
      refine pure_ (i := 2) (N := some 13) (v := ?_) (a' := ?_) #[true, false, true, false, false, false, false, false, false, false] rfl rfl (any_of HT_.out (by kernel_rfl)) (fun _ _ _ h => h) (Or.inl ⟨by rfl, ?_⟩) ?_ ?_; rotate_left
      ·intro w'
       go_simp
       with_reducible rfl
      rotate_left
      ·simp only [Act.put, zC, zD, zE, i64_w]
       rfl
      refine pure_ (i := 3) (N := some 14) (v := ?_) (a' := ?_) #[true, false, true, true, false, false, false, false, false, false] rfl rfl (any_of HT_.out (by kernel_rfl)) (fun _ _ _ h => h) (Or.inl ⟨by rfl, ?_⟩) ?_ ?_; rotate_left
      ·intro w'
       go_simp
       with_reducible rfl
      rotate_left
      ·simp only [Act.put, zC, zD, zE, i64_w]
       rfl
      refine take_ (i := 1) (N := some 12) (v := ?_) (a' := ?_) #[true, true, true, true, false, false, false, false, false, false] rfl rfl (take_ofW HT_.out HW_.out (by kernel_rfl)) (fun _ _ _ h => h) (Or.inl ⟨by rfl, ?_⟩) hHeld ?_ ?_; rotate_left
      ·rintro w' ⟨s0, s1, s2⟩
       go_simp
       with_reducible rfl
      rotate_left
      ·simp only [Act.put, zC, zD, zE, i64_w]
       rfl
      refine take_ (i := 4) (N := some 15) (v := ?_) (a' := ?_) #[true, true, true, true, true, false, false, false, false, false] rfl rfl (take_ofW HT_.out HW_.out (by kernel_rfl)) (fun _ _ _ h => h) (Or.inl ⟨by rfl, ?_⟩) hHeld ?_ ?_; rotate_left
      ·rintro w' ⟨s0, s1, s2⟩
       go_simp
       with_reducible rfl
      rotate_left
      ·simp only [Act.put, zC, zD, zE, i64_w]
       rfl
      refine pure_ (i := 5) (N := some 16) (v := ?_) (a' := ?_) #[true, true, true, true, true, true, false, false, false, false] rfl rfl (any_of HT_.out (by kernel_rfl)) (fun _ _ _ h => h) (Or.inl ⟨by rfl, ?_⟩) ?_ ?_; rotate_left
      ·intro w'
       go_simp
       with_reducible rfl
      rotate_left
      ·simp only [Act.put, zC, zD, zE, i64_w]
       rfl
      refine pure_ (i := 6) (N := some 17) (v := ?_) (a' := ?_) #[true, true, true, true, true, true, true, false, false, false] rfl rfl (any_of HT_.out (by kernel_rfl)) (fun _ _ _ h => h) (Or.inl ⟨by rfl, ?_⟩) ?_ ?_; rotate_left
      ·intro w'
       go_simp
       with_reducible rfl
      rotate_left
      ·simp only [Act.put, zC, zD, zE, i64_w]
       rfl
      refine pure_ (i := 7) (N := some 18) (v := ?_) (a' := ?_) #[true, true, true, true, true, true, true, true, false, false] rfl rfl (any_of HT_.out (by kernel_rfl)) (fun _ _ _ h => h) (Or.inl ⟨by rfl, ?_⟩) ?_ ?_; rotate_left
      ·intro w'
       go_simp
       with_reducible rfl
      rotate_left
      ·simp only [Act.put, zC, zD, zE, i64_w]
       rfl
      refine pure_ (i := 8) (N := some 19) (v := ?_) (a' := ?_) #[true, true, true, true, true, true, true, true, true, false] rfl rfl (any_of HT_.out (by kernel_rfl)) (fun _ _ _ h => h) (Or.inl ⟨by rfl, ?_⟩) ?_ ?_; rotate_left
      ·intro w'
       go_simp
       with_reducible rfl
      rotate_left
      ·simp only [Act.put, zC, zD, zE, i64_w]
       rfl
      refine last_ (i := 9) (N := none) #[true, true, true, true, true, true, true, true, true, true] rfl rfl (one_of HT_.out (by kernel_rfl)) (by decide) (fun K hK => ?_); have hs10 : w9.cell? ⟨gb16, 0, none⟩ = some (.int .i64 x18_1) := (zP BK16.out 0).trans rfl; have hfs10 := zO BK16.out 0; have hns10_1 := NB17_16.out; have hms10_1 := NB16_17.out; refine skip_ (w1 := ?_) (by rfl) rfl ?_ ?_; rotate_left
      ·go_simp
       rfl
      refine hK.out _ _ ?_; clear hK K; refine done_ (done_of HT_.out (by kernel_rfl)) ?_; have hnb11 := NB16_17.out; have hnc11 := NB17_16.out; have hcz12_0 := yL BK16.out 0 (.int .i64 x18_1) rfl; have hcz12_1 := yL BK16.out 1 (.int .i64 x19_1) rfl; have hcz12_2 := yL BK16.out 2 (.int .i64 a0_2) rfl; have hfz12_0 := zO BK16.out 0; have hfz12_1 := zO BK16.out 1; have hfz12_2 := zO BK16.out 2
      try go_wp2
      go_roundg k1
      case measure => have := HK1.out; omega
      case rel => exact ⟨(wrap64 (x8_1 + 1)), (Int.tmod (wrap64 (x18_1 + (wrap64 (bt a1 x8_1)))) 65521), (Int.tmod (wrap64 (x19_1 + (Int.tmod (wrap64 (x18_1 + (wrap64 (bt a1 x8_1)))) 65521))) 65521), (by first | rfl | (simp; done) | (simp [*]; done) | (simp [bne]; done)), H', ⟨by have := HK1.out; omega⟩, ⟨by (with_reducible repeat (first | refine zL ?_ _ | refine zN ?_ | refine zM ?_ _)); refine blk_put (cs := #[.int .i64 (Int.tmod (wrap64 (x18_1 + (wrap64 (bt a1 x8_1)))) 65521), .int .i64 x19_1, .int .i64 a0_2]) ?_ 1 _ rfl; (with_reducible repeat (first | refine zL ?_ _ | refine zN ?_ | refine zM ?_ _)); refine blk_put (cs := #[.int .i64 x18_1, .int .i64 x19_1, .int .i64 a0_2]) ?_ 0 _ rfl; (with_reducible repeat (first | refine zL ?_ _ | refine zN ?_ | refine zM ?_ _)); exact BK16.out⟩, ⟨by (with_reducible repeat (first | refine zL ?_ _ | refine zN ?_ | refine zM ?_ _)); refine blk_far ?_ NB17_16.out _; (with_reducible repeat (first | refine zL ?_ _ | refine zN ?_ | refine zM ?_ _)); refine blk_far ?_ NB17_16.out _; (with_reducible repeat (first | refine zL ?_ _ | refine zN ?_ | refine zM ?_ _)); exact BK17.out⟩, ⟨by repeat (first | (with_reducible first | exact HB.out | apply zH | apply zF | apply zG | refine zI ?_ GE16.out | refine zI ?_ GE17.out) | exact HB.out)⟩⟩
     ·rw [if_neg c7] at H
      exact absurd H (by simp)
    ·rw [if_neg c6] at H
     exact absurd H (by simp)
   ·rw [if_neg c5] at H
    have c5b0 : decide (x8_1 < (a1.size : Int)) = false := decide_eq_false c5; clear c5; simp only [Option.some.injEq, Prod.mk.injEq] at H; obtain ⟨rfl, rfl, rfl⟩ := H; have hnb13 := NB16_17.out; have hnc13 := NB17_16.out; have hcz14_0 := yL BK16.out 0 (.int .i64 x18_1) rfl; have hcz14_1 := yL BK16.out 1 (.int .i64 x19_1) rfl; have hcz14_2 := yL BK16.out 2 (.int .i64 a0_2) rfl; have hfz14_0 := zO BK16.out 0; have hfz14_1 := zO BK16.out 1; have hfz14_2 := zO BK16.out 2; have hcz15_0 := yL BK17.out 0 (.int .i64 0) rfl; have hcz15_1 := yL BK17.out 1 (.int .i64 0) rfl; have hcz15_2 := yL BK17.out 2 (.int .i64 0) rfl; have hfz15_0 := zO BK17.out 0; have hfz15_1 := zO BK17.out 1; have hfz15_2 := zO BK17.out 2; go_wp2; refine bodyPost_ret (results_cell_row rfl _ _ gb17 114 #[.int .i64 x18_1, .int .i64 x19_1, .int .i64 (wrap64 (a0_2 + (a1.size : Int)))] (0, 0) _ rfl (by (with_reducible repeat (first | refine zL ?_ _ | refine zN ?_ | refine zM ?_ _)); refine blk_put (cs := #[.int .i64 x18_1, .int .i64 x19_1, .int .i64 0]) ?_ 2 _ rfl; (with_reducible repeat (first | refine zL ?_ _ | refine zN ?_ | refine zM ?_ _)); refine blk_put (cs := #[.int .i64 x18_1, .int .i64 0, .int .i64 0]) ?_ 1 _ rfl; (with_reducible repeat (first | refine zL ?_ _ | refine zN ?_ | refine zM ?_ _)); refine blk_put (cs := #[.int .i64 0, .int .i64 0, .int .i64 0]) ?_ 0 _ rfl; (with_reducible repeat (first | refine zL ?_ _ | refine zN ?_ | refine zM ?_ _)); refine blk_far ?_ NB17_16.out _; (with_reducible repeat (first | refine zL ?_ _ | refine zN ?_ | refine zM ?_ _)); exact BK17.out) Try.underlying114 rfl (by kernel_rfl)) rfl ?_; exact ⟨by first | rfl | (simp <;> rfl) | (simp [*] <;> rfl), by repeat (first | (with_reducible first | exact HB.out | apply zH | apply zF | apply zG | refine zI ?_ GE16.out | refine zI ?_ GE17.out) | exact HB.out)⟩
def impl_Mix_end.f (a0_0 : Int) (a0_1 : Int) (a0_2 : Int) : Option (ByteArray) := some (strOfNums (([(wrap64 (Int.tdiv a0_1 256)) % 256, (Int.tmod a0_1 256) % 256, (wrap64 (Int.tdiv a0_0 256)) % 256, (Int.tmod a0_0 256) % 256] : List Int)))
theorem impl_Mix_end.calls (a0_0 : Int) (a0_1 : Int) (a0_2 : Int) (r : ByteArray) (w : World) (h : impl_Mix_end.f a0_0 a0_1 a0_2 = some r) :
  Calls Try.prog 90 #[.agg #[.int .i64 a0_0, .int .i64 a0_1, .int .i64 a0_2]] w fun e w' => e = .returned (.string r) ∧ Below w.heap.size w w' := by
 have hu114 := Try.underlying114; have HB := zA (Below.refl w.heap.size w); have H : (some (strOfNums (([(wrap64 (Int.tdiv a0_1 256)) % 256, (Int.tmod a0_1 256) % 256, (wrap64 (Int.tdiv a0_0 256)) % 256, (Int.tmod a0_0 256) % 256] : List Int)))) = some r := h; clear h; obtain ⟨y10, hy10⟩ : ∃ y_ : List Int, y_ = (([(wrap64 (Int.tdiv a0_1 256)) % 256, (Int.tmod a0_1 256) % 256, (wrap64 (Int.tdiv a0_0 256)) % 256, (Int.tmod a0_0 256) % 256] : List Int)) := ⟨_, rfl⟩; replace H : (some (strOfNums y10)) = some r := by first | (rw [hy10]; with_reducible exact H) | (have H2_ := (Option.bind_some _ _).symm.trans H; rw [hy10]; with_reducible exact H2_) | (have H2_ := (Option.bind_some _ _).symm.trans H; with_reducible exact H2_) | with_reducible exact H | (rw [hy10]; exact H) | exact H
 have Ny10 := zA hy10; clear hy10; obtain rfl := yM H; go_enter Try.func90, Try.ntmps90; go_wp2_with (first | ((with_reducible refine gate_dst (N := 1) rfl ?_); refine box_event ?hg (N := 1) ?hd (cs := #[.int .i64 a0_0, .int .i64 a0_1, .int .i64 a0_2]) (t := 114) ?hr ?_; (case hd => rfl); (case hg => rfl); (case hr => first | (go_simp; done) | (go_simp; rfl)); intro gb11 hg w2 hbox hb; have n0_ := zA (zAD (by (with_reducible repeat first | exact HB.out | apply zH | apply zF | apply zG) <;> exact HB.out) hb); have n1_ := zA (hbox); have n2_ := zA ((by rw [hg]; exact (zAE (by (with_reducible repeat first | exact HB.out | apply zH | apply zF | apply zG) <;> exact HB.out)) : w.heap.size ≤ gb11)); have n3_ := zA ((by rw [hg]; exact (zAE (by (with_reducible repeat first | exact HB.out | apply zH | apply zF | apply zG) <;> exact HB.out)) : w.heap.size ≤ gb11)); clear HB; have HB := n0_; have BK11 := n1_; have GW11 := n2_; have GE11 := n3_; clear n0_ n1_ n2_ n3_; clear hb hbox hg; have hcz3_0 := yL BK11.out 0 (.int .i64 a0_0) rfl; have hcz3_1 := yL BK11.out 1 (.int .i64 a0_1) rfl; have hcz3_2 := yL BK11.out 2 (.int .i64 a0_2) rfl; have hfz3_0 := zO BK11.out 0; have hfz3_1 := zO BK11.out 1; have hfz3_2 := zO BK11.out 2) | ((with_reducible refine gate_dst (N := 19) rfl ?_); refine Kd.R_lit (Kd.int .u8) _ 5 ?hg (N := 19) ?hd (xs := ([(wrap64 (Int.tdiv a0_1 256)) % 256, (Int.tmod a0_1 256) % 256, (wrap64 (Int.tdiv a0_0 256)) % 256, (Int.tmod a0_0 256) % 256] : List Int)) (inner := [.int .u8 ((wrap64 (Int.tdiv a0_1 256)) % 256), .int .u8 ((Int.tmod a0_1 256) % 256), .int .u8 ((wrap64 (Int.tdiv a0_0 256)) % 256), .int .u8 ((Int.tmod a0_0 256) % 256)]) (ok := fun _ => True) (okp := fun _ => True) ?hr ?hp (fun _ hk => hk) trivial (Below.refl _ _) (Nat.le_refl _) (by simp) ?_; (case hd => rfl); (case hg => rfl); (case hr => first | (go_simp; done) | (go_simp; rfl)); (case hp => exact (Reps.one (show Kd.M (Kd.int .u8) _ _ _ ((wrap64 (Int.tdiv a0_1 256)) % 256) [.int .u8 ((wrap64 (Int.tdiv a0_1 256)) % 256)] from rfl) (Reps.one (show Kd.M (Kd.int .u8) _ _ _ ((Int.tmod a0_1 256) % 256) [.int .u8 ((Int.tmod a0_1 256) % 256)] from rfl) (Reps.one (show Kd.M (Kd.int .u8) _ _ _ ((wrap64 (Int.tdiv a0_0 256)) % 256) [.int .u8 ((wrap64 (Int.tdiv a0_0 256)) % 256)] from rfl) (Reps.one (show Kd.M (Kd.int .u8) _ _ _ ((Int.tmod a0_0 256) % 256) [.int .u8 ((Int.tmod a0_0 256) % 256)] from rfl) (Reps.none _ _)))))); intro v12 w4 ho5 hb hg_ hnew_; clear hg_ hnew_; (first | rw [← Ny10.out] at ho5 | (simp only [Int.reduceToNat] at ho5; rw [← Ny10.out] at ho5)); have n0_ := zA (Kd.R_lower ho5 (zAE (by repeat (first | (with_reducible first | exact HB.out | apply zH | apply zF | apply zG | refine zI ?_ GE11.out) | exact HB.out)))); have n1_ := zA (yE (g := gb11) (o := .cells #[.int .i64 a0_0, .int .i64 a0_1, .int .i64 a0_2] 114 (0, 0)) (by (with_reducible repeat (first | refine zL ?_ _ | refine zN ?_ | refine zM ?_ _)); exact BK11.out) hb); have n2_ := zA (zAD (by repeat (first | (with_reducible first | exact HB.out | apply zH | apply zF | apply zG | refine zI ?_ GE11.out) | exact HB.out)) hb); clear BK11; clear HB; have HO13 := n0_; have BK11 := n1_; have HB := n2_; clear n0_ n1_ n2_; clear hb ho5; have hcv6 := own_string (P := Try.prog) Try.underlying119 Try.underlying5 Try.underlying9 (Kd.own_of_R HO13.out))); go_ret; exact ⟨by first | rfl | (simp <;> rfl) | (simp [*] <;> rfl), by repeat (first | (with_reducible first | exact HB.out | apply zH | apply zF | apply zG | refine zI ?_ GE11.out) | exact HB.out)⟩
def impl_digest.f (k : Nat) (a0 : Int) (a1 : ByteArray) : Option (ByteArray) := (impl_newMix.f a0).bind fun bt10 => ((impl_Mix_feed.f k bt10.1 bt10.2.1 bt10.2.2 a1).bind fun bt11 => ((impl_Mix_end.f bt11.1 bt11.2.1 bt11.2.2).bind fun t12 => (some t12)))
theorem impl_digest.calls (k : Nat) (a0 : Int) (a1 : ByteArray) (r : ByteArray) (w : World) (h : impl_digest.f k a0 a1 = some r) :
  Calls Try.prog 66 #[.int .u8 a0, .string a1] w fun e w' => e = .returned (.string r) ∧ Below w.heap.size w w' := by
 have HB := zA (Below.refl w.heap.size w); have H : ((impl_newMix.f a0).bind fun bt10 => ((impl_Mix_feed.f k bt10.1 bt10.2.1 bt10.2.2 a1).bind fun bt11 => ((impl_Mix_end.f bt11.1 bt11.2.1 bt11.2.2).bind fun t12 => (some t12)))) = some r := h; clear h; replace H := zAF H; obtain ⟨⟨t10, t13, t14⟩, A30, H⟩ := H; replace H : ((impl_Mix_feed.f k t10 t13 t14 a1).bind fun bt11 => ((impl_Mix_end.f bt11.1 bt11.2.1 bt11.2.2).bind fun t12 => (some t12))) = some r := H; have A3 := zA A30; clear A30; replace H := zAF H; obtain ⟨⟨t11, t15, t16⟩, A40, H⟩ := H; replace H : ((impl_Mix_end.f t11 t15 t16).bind fun t12 => (some t12)) = some r := H; have A4 := zA A40; clear A40; replace H := zAF H; obtain ⟨t12, A50, H⟩ := H; replace H : (some t12) = some r := H; have A5 := zA A50; clear A50; obtain rfl := yM H; go_enter Try.func66, Try.ntmps66; go_wp2_with (first | ((with_reducible refine yB (f := 88) rfl ?_); refine goesL_ (some 6) rfl rfl Try.func88 (by kernel_rfl) rfl #[.int .u8 a0] rfl (by (try simp only [zAA, zAB, zAC]); first | done | rfl) ?_; (with_reducible refine (impl_newMix.calls a0 t10 t13 t14 _ A3.out).mono ?_); rintro e w6 ⟨rfl, hb⟩; refine ⟨_, rfl, ?_⟩; have n0_ := zA (zAD (by (with_reducible repeat first | exact HB.out | apply zH | apply zF | apply zG) <;> exact HB.out) hb); clear HB; have HB := n0_; clear n0_; (try clear hb)) | ((with_reducible refine yB (f := 89) rfl ?_); refine goesL_ (some 8) rfl rfl Try.func89 (by kernel_rfl) rfl #[.agg #[.int .i64 t10, .int .i64 t13, .int .i64 t14], .string a1] rfl (by (try simp only [zAA, zAB, zAC]); first | done | rfl) ?_; (with_reducible refine (impl_Mix_feed.calls k t10 t13 t14 a1 t11 t15 t16 _ A4.out).mono ?_); rintro e w7 ⟨rfl, hb⟩; refine ⟨_, rfl, ?_⟩; have n0_ := zA (zAD (by (with_reducible repeat first | exact HB.out | apply zH | apply zF | apply zG) <;> exact HB.out) hb); clear HB; have HB := n0_; clear n0_; (try clear hb)) | ((with_reducible refine yB (f := 90) rfl ?_); refine goesL_ (some 9) rfl rfl Try.func90 (by kernel_rfl) rfl #[.agg #[.int .i64 t11, .int .i64 t15, .int .i64 t16]] rfl (by (try simp only [zAA, zAB, zAC]); first | done | rfl) ?_; (with_reducible refine (impl_Mix_end.calls t11 t15 t16 t12 _ A5.out).mono ?_); rintro e w8 ⟨rfl, hb⟩; refine ⟨_, rfl, ?_⟩; have n0_ := zA (zAD (by (with_reducible repeat first | exact HB.out | apply zH | apply zF | apply zG) <;> exact HB.out) hb); clear HB; have HB := n0_; clear n0_; (try clear hb))); go_ret; exact ⟨by first | rfl | (simp <;> rfl) | (simp [*] <;> rfl), by (with_reducible repeat first | exact HB.out | apply zH | apply zF | apply zG) <;> exact HB.out⟩
def impl_oneByte.f (a0 : Int) : Option (ByteArray) := some (strOfNums (([(a0) % 256] : List Int)))
theorem impl_oneByte.calls (a0 : Int) (r : ByteArray) (w : World) (h : impl_oneByte.f a0 = some r) :
  Calls Try.prog 91 #[.int .i64 a0] w fun e w' => e = .returned (.string r) ∧ Below w.heap.size w w' := by
 have HB := zA (Below.refl w.heap.size w); have H : (some (strOfNums (([(a0) % 256] : List Int)))) = some r := h; clear h; obtain ⟨y10, hy10⟩ : ∃ y_ : List Int, y_ = (([(a0) % 256] : List Int)) := ⟨_, rfl⟩; replace H : (some (strOfNums y10)) = some r := by first | (rw [hy10]; with_reducible exact H) | (have H2_ := (Option.bind_some _ _).symm.trans H; rw [hy10]; with_reducible exact H2_) | (have H2_ := (Option.bind_some _ _).symm.trans H; with_reducible exact H2_) | with_reducible exact H | (rw [hy10]; exact H) | exact H
 have Ny10 := zA hy10; clear hy10; obtain rfl := yM H; go_enter Try.func91, Try.ntmps91; go_wp2_with (first | ((with_reducible refine gate_dst (N := 5) rfl ?_); refine Kd.R_lit (Kd.int .u8) _ 5 ?hg (N := 5) ?hd (xs := ([(a0) % 256] : List Int)) (inner := [.int .u8 ((a0) % 256)]) (ok := fun _ => True) (okp := fun _ => True) ?hr ?hp (fun _ hk => hk) trivial (Below.refl _ _) (Nat.le_refl _) (by simp) ?_; (case hd => rfl); (case hg => rfl); (case hr => first | (go_simp; done) | (go_simp; rfl)); (case hp => exact (Reps.one (show Kd.M (Kd.int .u8) _ _ _ ((a0) % 256) [.int .u8 ((a0) % 256)] from rfl) (Reps.none _ _))); intro v11 w2 ho3 hb hg_ hnew_; clear hg_ hnew_; (first | rw [← Ny10.out] at ho3 | (simp only [Int.reduceToNat] at ho3; rw [← Ny10.out] at ho3)); have n0_ := zA (Kd.R_lower ho3 (zAE (by (with_reducible repeat first | exact HB.out | apply zH | apply zF | apply zG) <;> exact HB.out))); have n1_ := zA (zAD (by (with_reducible repeat first | exact HB.out | apply zH | apply zF | apply zG) <;> exact HB.out) hb); clear HB; have HO12 := n0_; have HB := n1_; clear n0_ n1_; clear hb ho3; have hcv4 := own_string (P := Try.prog) Try.underlying119 Try.underlying5 Try.underlying9 (Kd.own_of_R HO12.out))); go_ret; exact ⟨by first | rfl | (simp <;> rfl) | (simp [*] <;> rfl), by (with_reducible repeat first | exact HB.out | apply zH | apply zF | apply zG) <;> exact HB.out⟩
mutual
def impl_Shown_bytes.l0 : Nat → ByteArray → List ByteArray → Int → Int → List ByteArray → List ByteArray → List ByteArray → Int → Option (ByteArray)
 | 0, _, _, _, _, _, _, _, _ => none
 | k + 1, x3, x13, x14, x15, x10, x11, x12, x16 => if x15 < x14 then (if 0 ≤ x15 then (if x15 < (x13.length : Int) then ((impl_oneByte.f ((rdOf ByteArray.empty x13 x15).size : Int)).bind fun t17 => (if t17.size + (rdOf ByteArray.empty x13 x15).size ≤ 9223372036854775807 then (if x15 < (x11.length : Int) then ((impl_oneByte.f ((rdOf ByteArray.empty x11 x15).size : Int)).bind fun t18 => (if (t17 ++ (rdOf ByteArray.empty x13 x15)).size + t18.size ≤ 9223372036854775807 then (if ((t17 ++ (rdOf ByteArray.empty x13 x15)) ++ t18).size + (rdOf ByteArray.empty x11 x15).size ≤ 9223372036854775807 then (if x3.size + (((t17 ++ (rdOf ByteArray.empty x13 x15)) ++ t18) ++ (rdOf ByteArray.empty x11 x15)).size ≤ 9223372036854775807 then (impl_Shown_bytes.l0 k (x3 ++ (((t17 ++ (rdOf ByteArray.empty x13 x15)) ++ t18) ++ (rdOf ByteArray.empty x11 x15))) x13 x14 (wrap64 (x15 + 1)) x10 x11 x12 x16) else (none)) else (none)) else (none))) else (none)) else (none))) else (none)) else (none)) else ((impl_oneByte.f (x12.length : Int)).bind fun t19 => (if x3.size + t19.size ≤ 9223372036854775807 then (impl_Shown_bytes.l1 k (x3 ++ t19) x12 (x12.length : Int) 0) else (none)))
def impl_Shown_bytes.l1 : Nat → ByteArray → List ByteArray → Int → Int → Option (ByteArray)
 | 0, _, _, _, _ => none
 | k + 1, x3, x49, x50, x51 => if x51 < x50 then (if 0 ≤ x51 then (if x51 < (x49.length : Int) then (if x3.size + (rdOf ByteArray.empty x49 x51).size ≤ 9223372036854775807 then (impl_Shown_bytes.l1 k (x3 ++ (rdOf ByteArray.empty x49 x51)) x49 x50 (wrap64 (x51 + 1))) else (none)) else (none)) else (none)) else (some x3)
end
def impl_Shown_bytes.f (k : Nat) (l0_0 : List ByteArray) (l0_1 : List ByteArray) (l0_2 : List ByteArray) (a0_3 : Int) : Option (ByteArray) := (impl_oneByte.f (l0_0.length : Int)).bind fun t10 => (impl_Shown_bytes.l0 k t10 l0_0 (l0_0.length : Int) 0 l0_0 l0_1 l0_2 a0_3)
def impl_Shown_bytes.T5 : Bool × List (List Nat × List Nat) := (true, [([], []), ([], []), ([1], [1]), ([2], [2]), ([], []), ([3, 4], [3, 4]), ([], []), ([6], [6]), ([], []), ([7, 8], [7, 8]), ([9], [9]), ([10], [10]), ([11, 3], [11]), ([5, 12], [5, 12]), ([], []), ([14], [14]), ([], []), ([15, 16], [15, 16]), ([17], [17]), ([13, 18], [13, 18]), ([0, 19], [0, 19]), ([20, 12, 0, 1, 2, 3, 4, 5, 6, 7, 8, 9, 10, 11, 12, 13, 14, 15, 16, 17, 18, 19, 20], [0, 20])])
def impl_Shown_bytes.B5 : List Nat := [0, 0, 2, 6, 0, 30, 0, 64, 0, 448, 960, 1984, 4046, 8190, 0, 16384, 0, 114688, 245760, 524286, 1048575, 2097151]
theorem impl_Shown_bytes.tab5 : rtab .any (opsOf Try.f67 5) = impl_Shown_bytes.T5 := by kernel_rfl
theorem impl_Shown_bytes.bits5 : waitsOk impl_Shown_bytes.T5.2 impl_Shown_bytes.B5 = true := by kernel_rfl
theorem impl_Shown_bytes.calls (k : Nat) (A0_0 : Option Addr) (c0_0 : Nat) (l0_0 : List ByteArray) (A0_1 : Option Addr) (c0_1 : Nat) (l0_1 : List ByteArray) (A0_2 : Option Addr) (c0_2 : Nat) (l0_2 : List ByteArray) (a0_3 : Int) (r : ByteArray) (w : World) (hr0_0 : Kd.C Kd.string w A0_0 l0_0.length l0_0) (hc0_0 : l0_0.length ≤ c0_0) (hr0_1 : Kd.C Kd.string w A0_1 l0_1.length l0_1) (hc0_1 : l0_1.length ≤ c0_1) (hr0_2 : Kd.C Kd.string w A0_2 l0_2.length l0_2) (hc0_2 : l0_2.length ≤ c0_2) (h : impl_Shown_bytes.f k l0_0 l0_1 l0_2 a0_3 = some r) :
  Calls Try.prog 67 #[.agg #[.slice A0_0 l0_0.length c0_0, .slice A0_1 l0_1.length c0_1, .slice A0_2 l0_2.length c0_2, .int .i64 a0_3]] w fun e w' => e = .returned (.string r) ∧ Below w.heap.size w w' := by
 have hu43 := Try.underlying43; have HR0_0 := zA hr0_0; have HC0_0 := zA hc0_0; clear hr0_0 hc0_0; have HR0_1 := zA hr0_1; have HC0_1 := zA hc0_1; clear hr0_1 hc0_1; have HR0_2 := zA hr0_2; have HC0_2 := zA hc0_2; clear hr0_2 hc0_2; have HB := zA (Below.refl w.heap.size w); have H : ((impl_oneByte.f (l0_0.length : Int)).bind fun t29 => (impl_Shown_bytes.l0 k t29 l0_0 (l0_0.length : Int) 0 l0_0 l0_1 l0_2 a0_3)) = some r := h; clear h; replace H := zAF H; obtain ⟨t29, A20, H⟩ := H; replace H : (impl_Shown_bytes.l0 k t29 l0_0 (l0_0.length : Int) 0 l0_0 l0_1 l0_2 a0_3) = some r := H; have A2 := zA A20; clear A20; have H' := zA H; clear H; go_enter Try.func67, Try.ntmps67; go_wp2_with (first | ((with_reducible refine gate_dst (N := 1) rfl ?_); refine box_event ?hg (N := 1) ?hd (cs := #[.slice A0_0 l0_0.length c0_0, .slice A0_1 l0_1.length c0_1, .slice A0_2 l0_2.length c0_2, .int .i64 a0_3]) (t := 43) ?hr ?_; (case hd => rfl); (case hg => rfl); (case hr => first | (go_simp; done) | (go_simp; rfl)); intro gb30 hg w3 hbox hb; have n0_ := zA (zAD (by (with_reducible repeat first | exact HB.out | apply zH | apply zF | apply zG) <;> exact HB.out) hb); have n1_ := zA (hbox); have n2_ := zA ((by rw [hg]; exact (zAE (by (with_reducible repeat first | exact HB.out | apply zH | apply zF | apply zG) <;> exact HB.out)) : w.heap.size ≤ gb30)); have n3_ := zA ((by rw [hg]; exact (zAE (by (with_reducible repeat first | exact HB.out | apply zH | apply zF | apply zG) <;> exact HB.out)) : w.heap.size ≤ gb30)); clear HB; have HB := n0_; have BK30 := n1_; have GW30 := n2_; have GE30 := n3_; clear n0_ n1_ n2_ n3_; clear hb hbox hg; have hcz4_0 := yL BK30.out 0 (.slice A0_0 l0_0.length c0_0) rfl; have hcz4_1 := yL BK30.out 1 (.slice A0_1 l0_1.length c0_1) rfl; have hcz4_2 := yL BK30.out 2 (.slice A0_2 l0_2.length c0_2) rfl; have hcz4_3 := yL BK30.out 3 (.int .i64 a0_3) rfl; have hfz4_0 := zO BK30.out 0; have hfz4_1 := zO BK30.out 1; have hfz4_2 := zO BK30.out 2; have hfz4_3 := zO BK30.out 3) | ((with_reducible refine yB (f := 91) rfl ?_); refine goesL_ (some 11) rfl rfl Try.func91 (by kernel_rfl) rfl #[.int .i64 (l0_0.length : Int)] rfl (by (try simp only [zAA, zAB, zAC]); first | done | rfl | (simp only [zZ, zY]; rfl)) ?_; (with_reducible refine (impl_oneByte.calls (l0_0.length : Int) t29 _ A2.out).mono ?_); rintro e w5 ⟨rfl, hb⟩; refine ⟨_, rfl, ?_⟩; have n0_ := zA (yE (g := gb30) (o := .cells #[.slice A0_0 l0_0.length c0_0, .slice A0_1 l0_1.length c0_1, .slice A0_2 l0_2.length c0_2, .int .i64 a0_3] 43 (0, 0)) (by (with_reducible repeat (first | refine zL ?_ _ | refine zN ?_ | refine zM ?_ _)); exact BK30.out) hb); have n1_ := zA (zAD (by repeat (first | (with_reducible first | exact HB.out | apply zH | apply zF | apply zG | refine zI ?_ GE30.out) | exact HB.out)) hb); clear BK30; clear HB; have BK30 := n0_; have HB := n1_; clear n0_ n1_; (try clear hb); have hcz6_0 := yL BK30.out 0 (.slice A0_0 l0_0.length c0_0) rfl; have hcz6_1 := yL BK30.out 1 (.slice A0_1 l0_1.length c0_1) rfl; have hcz6_2 := yL BK30.out 2 (.slice A0_2 l0_2.length c0_2) rfl; have hcz6_3 := yL BK30.out 3 (.int .i64 a0_3) rfl; have hfz6_0 := zO BK30.out 0; have hfz6_1 := zO BK30.out 1; have hfz6_2 := zO BK30.out 2; have hfz6_3 := zO BK30.out 3)); go_loopg [3, 15] k (fun kq v3 v15 w' => ∃ (x3_1 : ByteArray) (x15_1 : Int), v3 = .string x3_1 ∧ v15 = .int .i64 x15_1 ∧ Aside0 (impl_Shown_bytes.l0 kq x3_1 l0_0 (l0_0.length : Int) x15_1 l0_0 l0_1 l0_2 a0_3 = some r) ∧ Aside0 (kq ≤ k) ∧ Aside0 (w'.heap[gb30]? = some (.cells #[(.slice A0_0 l0_0.length c0_0), (.slice A0_1 l0_1.length c0_1), (.slice A0_2 l0_2.length c0_2), .int .i64 a0_3] 43 (0, 0))) ∧ Aside0 (Below w.heap.size w w'))
 case atStart => exact ⟨(t29), (0), (by first | rfl | (simp; done) | (simp [*]; done) | (simp [bne]; done)), (by first | rfl | (simp; done) | (simp [*]; done) | (simp [bne]; done)), H', ⟨Nat.le_refl _⟩, ⟨by (with_reducible repeat (first | refine zL ?_ _ | refine zN ?_ | refine zM ?_ _)); exact BK30.out⟩, ⟨by repeat (first | (with_reducible first | exact HB.out | apply zH | apply zF | apply zG | refine zI ?_ GE30.out) | exact HB.out)⟩⟩
 case round =>
  clear H'
  try clear p2
  try clear c6
  try clear hcz4_0
  try clear hcz4_1
  try clear hcz4_2
  try clear hcz4_3
  try clear hcz6_0
  try clear hcz6_1
  try clear hcz6_2
  try clear hcz6_3
  try clear hfz4_0
  try clear hfz4_1
  try clear hfz4_2
  try clear hfz4_3
  try clear hfz6_0
  try clear hfz6_1
  try clear hfz6_2
  try clear hfz6_3
  obtain ⟨x3_1, x15_1, rfl, rfl, HA, HK1, BK30, HB⟩ := hrel
  cases gk with
  | zero => exact absurd HA.out (by simp [impl_Shown_bytes.l0])
  | succ k1 =>
   have H := HA.out; clear HA; simp only [impl_Shown_bytes.l0] at H
   by_cases c7 : x15_1 < (l0_0.length : Int)
   ·rw [if_pos c7] at H
    have c7b0 : decide (x15_1 < (l0_0.length : Int)) = true := zX c7; clear c7
    by_cases c8 : 0 ≤ x15_1
    ·rw [if_pos c8] at H
     have c8b0 : decide (0 ≤ x15_1) = true := zX c8; clear c8
     by_cases c9 : x15_1 < (l0_0.length : Int)
     ·rw [if_pos c9] at H
      have c9b0 : decide (x15_1 < (l0_0.length : Int)) = true := zX c9; clear c9; replace H := zAF H; obtain ⟨t31, A33, H⟩ := H; replace H : (if t31.size + (rdOf ByteArray.empty l0_0 x15_1).size ≤ 9223372036854775807 then (if x15_1 < (l0_1.length : Int) then ((impl_oneByte.f ((rdOf ByteArray.empty l0_1 x15_1).size : Int)).bind fun t34 => (if (t31 ++ (rdOf ByteArray.empty l0_0 x15_1)).size + t34.size ≤ 9223372036854775807 then (if ((t31 ++ (rdOf ByteArray.empty l0_0 x15_1)) ++ t34).size + (rdOf ByteArray.empty l0_1 x15_1).size ≤ 9223372036854775807 then (if x3_1.size + (((t31 ++ (rdOf ByteArray.empty l0_0 x15_1)) ++ t34) ++ (rdOf ByteArray.empty l0_1 x15_1)).size ≤ 9223372036854775807 then (impl_Shown_bytes.l0 k1 (x3_1 ++ (((t31 ++ (rdOf ByteArray.empty l0_0 x15_1)) ++ t34) ++ (rdOf ByteArray.empty l0_1 x15_1))) l0_0 (l0_0.length : Int) (wrap64 (x15_1 + 1)) l0_0 l0_1 l0_2 a0_3) else (none)) else (none)) else (none))) else (none)) else (none)) = some r := H; have A10 := zA A33; clear A33
      by_cases c11 : t31.size + (rdOf ByteArray.empty l0_0 x15_1).size ≤ 9223372036854775807
      ·rw [if_pos c11] at H
       have c11b0 := eq_true c11; have c11b1 : decide (t31.size + (rdOf ByteArray.empty l0_0 x15_1).size ≤ 9223372036854775807) = true := zX c11
       try have c11b2 : (9223372036854775807 < t31.size + (rdOf ByteArray.empty l0_0 x15_1).size) = False := eq_false (Nat.not_lt.2 c11)
       by_cases c12 : x15_1 < (l0_1.length : Int)
       ·rw [if_pos c12] at H
        have c12b0 : decide (x15_1 < (l0_1.length : Int)) = true := zX c12; clear c12; replace H := zAF H; obtain ⟨t34, A35, H⟩ := H; replace H : (if (t31 ++ (rdOf ByteArray.empty l0_0 x15_1)).size + t34.size ≤ 9223372036854775807 then (if ((t31 ++ (rdOf ByteArray.empty l0_0 x15_1)) ++ t34).size + (rdOf ByteArray.empty l0_1 x15_1).size ≤ 9223372036854775807 then (if x3_1.size + (((t31 ++ (rdOf ByteArray.empty l0_0 x15_1)) ++ t34) ++ (rdOf ByteArray.empty l0_1 x15_1)).size ≤ 9223372036854775807 then (impl_Shown_bytes.l0 k1 (x3_1 ++ (((t31 ++ (rdOf ByteArray.empty l0_0 x15_1)) ++ t34) ++ (rdOf ByteArray.empty l0_1 x15_1))) l0_0 (l0_0.length : Int) (wrap64 (x15_1 + 1)) l0_0 l0_1 l0_2 a0_3) else (none)) else (none)) else (none)) = some r := H; have A13 := zA A35; clear A35
        by_cases c14 : (t31 ++ (rdOf ByteArray.empty l0_0 x15_1)).size + t34.size ≤ 9223372036854775807
        ·rw [if_pos c14] at H
         have c14b0 := eq_true c14; have c14b1 : decide ((t31 ++ (rdOf ByteArray.empty l0_0 x15_1)).size + t34.size ≤ 9223372036854775807) = true := zX c14; (try (have c14b3 := (show (t31 ++ (rdOf ByteArray.empty l0_0 x15_1)).size + t34.size ≤ 9223372036854775807 from c14); simp only [ByteArray.size_append, ByteArray.size_extract, Nat.min_self, Nat.sub_zero] at c14b3; have c14b4 := eq_true c14b3; have c14b5 : decide (_) = true := zX c14b3; have c14b6 := eq_false (Nat.not_lt.2 c14b3); clear c14b3))
         try have c14b2 : (9223372036854775807 < (t31 ++ (rdOf ByteArray.empty l0_0 x15_1)).size + t34.size) = False := eq_false (Nat.not_lt.2 c14)
         by_cases c15 : ((t31 ++ (rdOf ByteArray.empty l0_0 x15_1)) ++ t34).size + (rdOf ByteArray.empty l0_1 x15_1).size ≤ 9223372036854775807
         ·rw [if_pos c15] at H
          have c15b0 := eq_true c15; have c15b1 : decide (((t31 ++ (rdOf ByteArray.empty l0_0 x15_1)) ++ t34).size + (rdOf ByteArray.empty l0_1 x15_1).size ≤ 9223372036854775807) = true := zX c15; (try (have c15b3 := (show ((t31 ++ (rdOf ByteArray.empty l0_0 x15_1)) ++ t34).size + (rdOf ByteArray.empty l0_1 x15_1).size ≤ 9223372036854775807 from c15); simp only [ByteArray.size_append, ByteArray.size_extract, Nat.min_self, Nat.sub_zero] at c15b3; have c15b4 := eq_true c15b3; have c15b5 : decide (_) = true := zX c15b3; have c15b6 := eq_false (Nat.not_lt.2 c15b3); clear c15b3))
          try have c15b2 : (9223372036854775807 < ((t31 ++ (rdOf ByteArray.empty l0_0 x15_1)) ++ t34).size + (rdOf ByteArray.empty l0_1 x15_1).size) = False := eq_false (Nat.not_lt.2 c15)
          by_cases c16 : x3_1.size + (((t31 ++ (rdOf ByteArray.empty l0_0 x15_1)) ++ t34) ++ (rdOf ByteArray.empty l0_1 x15_1)).size ≤ 9223372036854775807
          ·rw [if_pos c16] at H
           have c16b0 := eq_true c16; have c16b1 : decide (x3_1.size + (((t31 ++ (rdOf ByteArray.empty l0_0 x15_1)) ++ t34) ++ (rdOf ByteArray.empty l0_1 x15_1)).size ≤ 9223372036854775807) = true := zX c16; (try (have c16b3 := (show x3_1.size + (((t31 ++ (rdOf ByteArray.empty l0_0 x15_1)) ++ t34) ++ (rdOf ByteArray.empty l0_1 x15_1)).size ≤ 9223372036854775807 from c16); simp only [ByteArray.size_append, ByteArray.size_extract, Nat.min_self, Nat.sub_zero] at c16b3; have c16b4 := eq_true c16b3; have c16b5 : decide (_) = true := zX c16b3; have c16b6 := eq_false (Nat.not_lt.2 c16b3); clear c16b3))
           try have c16b2 : (9223372036854775807 < x3_1.size + (((t31 ++ (rdOf ByteArray.empty l0_0 x15_1)) ++ t34) ++ (rdOf ByteArray.empty l0_1 x15_1)).size) = False := eq_false (Nat.not_lt.2 c16)
           have H' := zA H; clear H; have p36 : 0 ≤ (x15_1 : Int) := zW (by first | (with_reducible assumption) | assumption); have q36 : x15_1 < (l0_0.length : Int) := zW (by first | (with_reducible assumption) | assumption); obtain ⟨ad36, e36, hx36_0⟩ := Kd.at_string HR0_0.out x15_1 p36 q36
           cases e36
           replace hx36_0 := (HB.out.cell (zB w _ hx36_0)).trans hx36_0; replace p36 := eq_true p36; replace q36 := eq_true q36
           try go_wp2
           have n0_ := zA (zN BK30.out); have n1_ := zA (zG HB.out); clear BK30 HB; have BK30 := n0_; have HB := n1_; clear n0_ n1_; have p37 : 0 ≤ (x15_1 : Int) := zW (by first | (with_reducible assumption) | assumption); have q37 : x15_1 < (l0_1.length : Int) := zW (by first | (with_reducible assumption) | assumption); obtain ⟨ad37, e37, hx37_0⟩ := Kd.at_string HR0_1.out x15_1 p37 q37; have hw37_0 := hx37_0
           cases e37
           replace hx37_0 := (HB.out.cell (zB w _ hx37_0)).trans hx37_0; replace p37 := eq_true p37; replace q37 := eq_true q37; have p38 : 0 ≤ (x15_1 : Int) := zW (by first | (with_reducible assumption) | assumption); have q38 : x15_1 < (l0_1.length : Int) := zW (by first | (with_reducible assumption) | assumption); obtain ⟨ad38, e38, hx38_0⟩ := Kd.at_string HR0_1.out x15_1 p38 q38; have hw38_0 := hx38_0; obtain rfl : ad37 = ad38 := (by injection e38); replace hx38_0 := (HB.out.cell (zB w _ hx38_0)).trans hx38_0; replace p38 := eq_true p38; replace q38 := eq_true q38; refine start_ (n := 22) (S := fun w' => w'.cell? ⟨gb30, 0, none⟩ = some (.slice (some ad36) l0_0.length c0_0) ∧ w'.cell? ⟨gb30, 1, none⟩ = some (.slice (some ad37) l0_1.length c0_1) ∧ w'.cell? ⟨gb30, 2, none⟩ = some (.slice A0_2 l0_2.length c0_2) ∧ w'.cell? ⟨gb30, 3, none⟩ = some (.int .i64 a0_3) ∧ w'.cell? (ad37.add (x15_1).toNat) = some (.string (rdOf ByteArray.empty l0_1 x15_1)) ∧ w'.cell? (ad37.add (x15_1).toNat) = some (.string (rdOf ByteArray.empty l0_1 x15_1))) (ds := []) #[false, false, false, false, false, false, false, false, false, false, false, false, false, false, false, false, false, false, false, false, false, false] (by kernel_rfl) rfl rfl ⟨(zP BK30.out 0).trans rfl, (zP BK30.out 1).trans rfl, (zP BK30.out 2).trans rfl, (zP BK30.out 3).trans rfl, ((HB.out.cell (zB w _ hw37_0)).trans hw37_0), ((HB.out.cell (zB w _ hw38_0)).trans hw38_0)⟩ (fun hHeld => ?_); refine with_tabW impl_Shown_bytes.tab5 impl_Shown_bytes.bits5 (fun HT_ HW_ => ?_); generalize wr.drew = w17 at BK30 HB hx37_0 hx38_0 hHeld ⊢; refine pure_ (i := 0) (N := some 20) (v := ?_) (a' := ?_) #[true, false, false, false, false, false, false, false, false, false, false, false, false, false, false, false, false, false, false, false, false, false] rfl rfl (any_of HT_.out (by kernel_rfl)) (fun _ _ _ h => h) (Or.inl ⟨by rfl, ?_⟩) ?_ ?_; rotate_left
           ·intro w'
            go_simp
            with_reducible rfl
           rotate_left
           ·simp only [Act.put, zC, zD, zE, i64_w]
            rfl
           refine pure_ (i := 1) (N := some 21) (v := ?_) (a' := ?_) #[true, true, false, false, false, false, false, false, false, false, false, false, false, false, false, false, false, false, false, false, false, false] rfl rfl (any_of HT_.out (by kernel_rfl)) (fun _ _ _ h => h) (Or.inl ⟨by rfl, ?_⟩) ?_ ?_; rotate_left
           ·intro w'
            go_simp
            with_reducible rfl
           rotate_left
           ·simp only [Act.put, zC, zD, zE, i64_w]
            rfl
           refine pure_ (i := 2) (N := some 22) (v := ?_) (a' := ?_) #[true, true, true, false, false, false, false, false, false, false, false, false, false, false, false, false, false, false, false, false, false, false] rfl rfl (any_of HT_.out (by kernel_rfl)) (fun _ _ _ h => h) (Or.inl ⟨by rfl, ?_⟩) ?_ ?_; rotate_left
           ·intro w'
            go_simp
            with_reducible rfl
           rotate_left
           ·simp only [Act.put, zC, zD, zE, i64_w]
            rfl
           refine pure_ (i := 4) (N := some 24) (v := ?_) (a' := ?_) #[true, true, true, false, true, false, false, false, false, false, false, false, false, false, false, false, false, false, false, false, false, false] rfl rfl (any_of HT_.out (by kernel_rfl)) (fun _ _ _ h => h) (Or.inl ⟨by rfl, ?_⟩) ?_ ?_; rotate_left
           ·intro w'
            go_simp
            with_reducible rfl
           rotate_left
           ·simp only [Act.put, zC, zD, zE, i64_w]
            rfl
           refine pure_ (i := 6) (N := some 26) (v := ?_) (a' := ?_) #[true, true, true, false, true, false, true, false, false, false, false, false, false, false, false, false, false, false, false, false, false, false] rfl rfl (any_of HT_.out (by kernel_rfl)) (fun _ _ _ h => h) (Or.inl ⟨by rfl, ?_⟩) ?_ ?_; rotate_left
           ·intro w'
            go_simp
            with_reducible rfl
           rotate_left
           ·simp only [Act.put, zC, zD, zE, i64_w]
            rfl
           refine pure_ (i := 8) (N := some 28) (v := ?_) (a' := ?_) #[true, true, true, false, true, false, true, false, true, false, false, false, false, false, false, false, false, false, false, false, false, false] rfl rfl (any_of HT_.out (by kernel_rfl)) (fun _ _ _ h => h) (Or.inl ⟨by rfl, ?_⟩) ?_ ?_; rotate_left
           ·intro w'
            go_simp
            with_reducible rfl
           rotate_left
           ·simp only [Act.put, zC, zD, zE, i64_w]
            rfl
           refine pure_ (i := 14) (N := some 34) (v := ?_) (a' := ?_) #[true, true, true, false, true, false, true, false, true, false, false, false, false, false, true, false, false, false, false, false, false, false] rfl rfl (any_of HT_.out (by kernel_rfl)) (fun _ _ _ h => h) (Or.inl ⟨by rfl, ?_⟩) ?_ ?_; rotate_left
           ·intro w'
            go_simp
            with_reducible rfl
           rotate_left
           ·simp only [Act.put, zC, zD, zE, i64_w]
            rfl
           refine pure_ (i := 16) (N := some 36) (v := ?_) (a' := ?_) #[true, true, true, false, true, false, true, false, true, false, false, false, false, false, true, false, true, false, false, false, false, false] rfl rfl (any_of HT_.out (by kernel_rfl)) (fun _ _ _ h => h) (Or.inl ⟨by rfl, ?_⟩) ?_ ?_; rotate_left
           ·intro w'
            go_simp
            with_reducible rfl
           rotate_left
           ·simp only [Act.put, zC, zD, zE, i64_w]
            rfl
           refine take_ (i := 7) (N := some 27) (v := ?_) (a' := ?_) #[true, true, true, false, true, false, true, true, true, false, false, false, false, false, true, false, true, false, false, false, false, false] rfl rfl (take_ofW HT_.out HW_.out (by kernel_rfl)) (fun _ _ _ h => h) (Or.inl ⟨by rfl, ?_⟩) hHeld ?_ ?_; rotate_left
           ·rintro w' ⟨s0, s1, s2, s3, s4, s5⟩
            go_simp
            with_reducible rfl
           rotate_left
           ·simp only [Act.put, zC, zD, zE, i64_w]
            rfl
           refine pure_ (i := 9) (N := some 29) (v := ?_) (a' := ?_) #[true, true, true, false, true, false, true, true, true, true, false, false, false, false, true, false, true, false, false, false, false, false] rfl rfl (any_of HT_.out (by kernel_rfl)) (fun _ _ _ h => h) (Or.inl ⟨by rfl, ?_⟩) ?_ ?_; rotate_left
           ·intro w'
            go_simp
            with_reducible rfl
           rotate_left
           ·simp only [Act.put, zC, zD, zE, i64_w]
            rfl
           refine take_ (i := 10) (N := some 30) (v := ?_) (a' := ?_) #[true, true, true, false, true, false, true, true, true, true, true, false, false, false, true, false, true, false, false, false, false, false] rfl rfl (take_ofW HT_.out HW_.out (by kernel_rfl)) (fun _ _ _ h => h) (Or.inl ⟨by rfl, ?_⟩) hHeld ?_ ?_; rotate_left
           ·rintro w' ⟨s0, s1, s2, s3, s4, s5⟩
            go_simp
            with_reducible rfl
           rotate_left
           ·simp only [Act.put, zC, zD, zE, i64_w]
            rfl
           refine pure_ (i := 11) (N := some 31) (v := ?_) (a' := ?_) #[true, true, true, false, true, false, true, true, true, true, true, true, false, false, true, false, true, false, false, false, false, false] rfl rfl (any_of HT_.out (by kernel_rfl)) (fun _ _ _ h => h) (Or.inl ⟨by rfl, ?_⟩) ?_ ?_; rotate_left
           ·intro w'
            go_simp
            with_reducible rfl
           rotate_left
           ·simp only [Act.put, zC, zD, zE, i64_w]
            rfl
           refine take_ (i := 15) (N := some 35) (v := ?_) (a' := ?_) #[true, true, true, false, true, false, true, true, true, true, true, true, false, false, true, true, true, false, false, false, false, false] rfl rfl (take_ofW HT_.out HW_.out (by kernel_rfl)) (fun _ _ _ h => h) (Or.inl ⟨by rfl, ?_⟩) hHeld ?_ ?_; rotate_left
           ·rintro w' ⟨s0, s1, s2, s3, s4, s5⟩
            go_simp
            with_reducible rfl
           rotate_left
           ·simp only [Act.put, zC, zD, zE, i64_w]
            rfl
           refine pure_ (i := 17) (N := some 37) (v := ?_) (a' := ?_) #[true, true, true, false, true, false, true, true, true, true, true, true, false, false, true, true, true, true, false, false, false, false] rfl rfl (any_of HT_.out (by kernel_rfl)) (fun _ _ _ h => h) (Or.inl ⟨by rfl, ?_⟩) ?_ ?_; rotate_left
           ·intro w'
            go_simp
            with_reducible rfl
           rotate_left
           ·simp only [Act.put, zC, zD, zE, i64_w]
            rfl
           refine take_ (i := 18) (N := some 38) (v := ?_) (a' := ?_) #[true, true, true, false, true, false, true, true, true, true, true, true, false, false, true, true, true, true, true, false, false, false] rfl rfl (take_ofW HT_.out HW_.out (by kernel_rfl)) (fun _ _ _ h => h) (Or.inl ⟨by rfl, ?_⟩) hHeld ?_ ?_; rotate_left
           ·rintro w' ⟨s0, s1, s2, s3, s4, s5⟩
            go_simp
            with_reducible rfl
           rotate_left
           ·simp only [Act.put, zC, zD, zE, i64_w]
            rfl
           refine one_ (i := 3) (N := some 23) #[true, true, true, true, true, false, true, true, true, true, true, true, false, false, true, true, true, true, true, false, false, false] rfl rfl (one_of HT_.out (by kernel_rfl)) (by decide) (fun K hK => ?_); refine goes_ Try.func91 (by kernel_rfl) rfl #[.int .i64 ((rdOf ByteArray.empty l0_0 x15_1).size : Int)] (by rfl) rfl rfl (by (try simp only [zAA, zAB, zAC]); first | done | rfl) ?_
           with_reducible refine (impl_oneByte.calls ((rdOf ByteArray.empty l0_0 x15_1).size : Int) t31 _ A10.out).mono ?_
           rintro e w18 ⟨rfl, hb⟩; refine ⟨_, rfl, ?_⟩; have n0_ := zA (yE (g := gb30) (o := .cells #[.slice (some ad36) l0_0.length c0_0, .slice (some ad37) l0_1.length c0_1, .slice A0_2 l0_2.length c0_2, .int .i64 a0_3] 43 (0, 0)) (by (with_reducible repeat (first | refine zL ?_ _ | refine zN ?_ | refine zM ?_ _)); exact BK30.out) hb); have n1_ := zA (zAD (by repeat (first | (with_reducible first | exact HB.out | apply zH | apply zF | apply zG | refine zI ?_ GE30.out) | exact HB.out)) hb); clear BK30 HB; have BK30 := n0_; have HB := n1_; clear n0_ n1_; (try clear hb); refine hK.out _ _ ⟨(zP BK30.out 0).trans rfl, (zP BK30.out 1).trans rfl, (zP BK30.out 2).trans rfl, (zP BK30.out 3).trans rfl, ((HB.out.cell (zB w _ hw37_0)).trans hw37_0), ((HB.out.cell (zB w _ hw38_0)).trans hw38_0)⟩ (fun hHeld => ?_); clear hK K; refine norm_ (a' := ?_) ?_ ?_; rotate_left
           ·show Act.put _ (some 23) _ = _
            simp only [Act.put, zC, zD, zE, i64_w]; rfl
           refine pure_ (i := 5) (N := some 25) (v := ?_) (a' := ?_) #[true, true, true, true, true, true, true, true, true, true, true, true, false, false, true, true, true, true, true, false, false, false] rfl rfl (any_of HT_.out (by kernel_rfl)) (fun _ _ _ h => h) (Or.inl ⟨by rfl, ?_⟩) ?_ ?_; rotate_left
           ·intro w'
            go_simp
            with_reducible rfl
           rotate_left
           ·simp only [Act.put, zC, zD, zE, i64_w]
            rfl
           refine one_ (i := 12) (N := some 32) #[true, true, true, true, true, true, true, true, true, true, true, true, true, false, true, true, true, true, true, false, false, false] rfl rfl (one_of HT_.out (by kernel_rfl)) (by decide) (fun K hK => ?_); refine goes_ Try.func91 (by kernel_rfl) rfl #[.int .i64 ((rdOf ByteArray.empty l0_1 x15_1).size : Int)] (by rfl) rfl rfl (by (try simp only [zAA, zAB, zAC]); first | done | rfl) ?_
           with_reducible refine (impl_oneByte.calls ((rdOf ByteArray.empty l0_1 x15_1).size : Int) t34 _ A13.out).mono ?_
           rintro e w19 ⟨rfl, hb⟩; refine ⟨_, rfl, ?_⟩; have n0_ := zA (yE (g := gb30) (o := .cells #[.slice (some ad36) l0_0.length c0_0, .slice (some ad37) l0_1.length c0_1, .slice A0_2 l0_2.length c0_2, .int .i64 a0_3] 43 (0, 0)) (by (with_reducible repeat (first | refine zL ?_ _ | refine zN ?_ | refine zM ?_ _)); exact BK30.out) hb); have n1_ := zA (zAD (by repeat (first | (with_reducible first | exact HB.out | apply zH | apply zF | apply zG | refine zI ?_ GE30.out) | exact HB.out)) hb); clear BK30 HB; have BK30 := n0_; have HB := n1_; clear n0_ n1_; (try clear hb); refine hK.out _ _ ⟨(zP BK30.out 0).trans rfl, (zP BK30.out 1).trans rfl, (zP BK30.out 2).trans rfl, (zP BK30.out 3).trans rfl, ((HB.out.cell (zB w _ hw37_0)).trans hw37_0), ((HB.out.cell (zB w _ hw38_0)).trans hw38_0)⟩ (fun hHeld => ?_); clear hK K; refine norm_ (a' := ?_) ?_ ?_; rotate_left
           ·show Act.put _ (some 32) _ = _
            simp only [Act.put, zC, zD, zE, i64_w]; rfl
           refine pure_ (i := 13) (N := some 33) (v := ?_) (a' := ?_) #[true, true, true, true, true, true, true, true, true, true, true, true, true, true, true, true, true, true, true, false, false, false] rfl rfl (any_of HT_.out (by kernel_rfl)) (fun _ _ _ h => h) (Or.inl ⟨by rfl, ?_⟩) ?_ ?_; rotate_left
           ·intro w'
            go_simp
            with_reducible rfl
           rotate_left
           ·simp only [Act.put, zC, zD, zE, i64_w]
            rfl
           refine pure_ (i := 19) (N := some 39) (v := ?_) (a' := ?_) #[true, true, true, true, true, true, true, true, true, true, true, true, true, true, true, true, true, true, true, true, false, false] rfl rfl (any_of HT_.out (by kernel_rfl)) (fun _ _ _ h => h) (Or.inl ⟨by rfl, ?_⟩) ?_ ?_; rotate_left
           ·intro w'
            go_simp
            with_reducible rfl
           rotate_left
           ·simp only [Act.put, zC, zD, zE, i64_w]
            rfl
           refine pure_ (i := 20) (N := some 40) (v := ?_) (a' := ?_) #[true, true, true, true, true, true, true, true, true, true, true, true, true, true, true, true, true, true, true, true, true, false] rfl rfl (any_of HT_.out (by kernel_rfl)) (fun _ _ _ h => h) (Or.inl ⟨by rfl, ?_⟩) ?_ ?_; rotate_left
           ·intro w'
            go_simp
            with_reducible rfl
           rotate_left
           ·simp only [Act.put, zC, zD, zE, i64_w]
            rfl
           refine pure_ (i := 21) (N := some 3) (v := ?_) (a' := ?_) #[true, true, true, true, true, true, true, true, true, true, true, true, true, true, true, true, true, true, true, true, true, true] rfl rfl (any_of HT_.out (by kernel_rfl)) (fun _ _ _ h => h) (Or.inl ⟨by rfl, ?_⟩) ?_ ?_; rotate_left
           ·intro w'
            go_simp
            with_reducible rfl
           rotate_left
           ·simp only [Act.put, zC, zD, zE, i64_w]
            rfl
           refine done_ (done_of HT_.out (by kernel_rfl)) ?_
           try go_wp2
           go_roundg k1
           case measure => have := HK1.out; omega
           case rel => exact ⟨(x3_1 ++ (((t31 ++ (rdOf ByteArray.empty l0_0 x15_1)) ++ t34) ++ (rdOf ByteArray.empty l0_1 x15_1))), (wrap64 (x15_1 + 1)), (by first | rfl | (simp; done) | (simp [*]; done) | (simp [bne]; done)), (by first | rfl | (simp; done) | (simp [*]; done) | (simp [bne]; done)), H', ⟨by have := HK1.out; omega⟩, ⟨by (with_reducible repeat (first | refine zL ?_ _ | refine zN ?_ | refine zM ?_ _)); exact BK30.out⟩, ⟨by repeat (first | (with_reducible first | exact HB.out | apply zH | apply zF | apply zG | refine zI ?_ GE30.out) | exact HB.out)⟩⟩
          ·rw [if_neg c16] at H
           exact absurd H (by simp)
         ·rw [if_neg c15] at H
          exact absurd H (by simp)
        ·rw [if_neg c14] at H
         exact absurd H (by simp)
       ·rw [if_neg c12] at H
        exact absurd H (by simp)
      ·rw [if_neg c11] at H
       exact absurd H (by simp)
     ·rw [if_neg c9] at H
      exact absurd H (by simp)
    ·rw [if_neg c8] at H
     exact absurd H (by simp)
   ·rw [if_neg c7] at H
    have c7b0 : decide (x15_1 < (l0_0.length : Int)) = false := decide_eq_false c7; clear c7; replace H := zAF H; obtain ⟨t39, A40, H⟩ := H; replace H : (if x3_1.size + t39.size ≤ 9223372036854775807 then (impl_Shown_bytes.l1 k1 (x3_1 ++ t39) l0_2 (l0_2.length : Int) 0) else (none)) = some r := H; have A20 := zA A40; clear A40
    by_cases c21 : x3_1.size + t39.size ≤ 9223372036854775807
    ·rw [if_pos c21] at H
     have c21b0 := eq_true c21; have c21b1 : decide (x3_1.size + t39.size ≤ 9223372036854775807) = true := zX c21
     try have c21b2 : (9223372036854775807 < x3_1.size + t39.size) = False := eq_false (Nat.not_lt.2 c21)
     have H' := zA H; clear H; have hcz22_0 := yL BK30.out 0 (.slice A0_0 l0_0.length c0_0) rfl; have hcz22_1 := yL BK30.out 1 (.slice A0_1 l0_1.length c0_1) rfl; have hcz22_2 := yL BK30.out 2 (.slice A0_2 l0_2.length c0_2) rfl; have hcz22_3 := yL BK30.out 3 (.int .i64 a0_3) rfl; have hfz22_0 := zO BK30.out 0; have hfz22_1 := zO BK30.out 1; have hfz22_2 := zO BK30.out 2; have hfz22_3 := zO BK30.out 3; go_wp2_with (first | ((with_reducible refine yB (f := 91) rfl ?_); refine goesL_ (some 46) rfl rfl Try.func91 (by kernel_rfl) rfl #[.int .i64 (l0_2.length : Int)] rfl (by (try simp only [zAA, zAB, zAC]); first | done | rfl | (simp only [zZ, zY]; rfl)) ?_; (with_reducible refine (impl_oneByte.calls (l0_2.length : Int) t39 _ A20.out).mono ?_); rintro e w23 ⟨rfl, hb⟩; refine ⟨_, rfl, ?_⟩; have n0_ := zA (yE (g := gb30) (o := .cells #[.slice A0_0 l0_0.length c0_0, .slice A0_1 l0_1.length c0_1, .slice A0_2 l0_2.length c0_2, .int .i64 a0_3] 43 (0, 0)) (by (with_reducible repeat (first | refine zL ?_ _ | refine zN ?_ | refine zM ?_ _)); exact BK30.out) hb); have n1_ := zA (zAD (by repeat (first | (with_reducible first | exact HB.out | apply zH | apply zF | apply zG | refine zI ?_ GE30.out) | exact HB.out)) hb); clear BK30; clear HB; have BK30 := n0_; have HB := n1_; clear n0_ n1_; (try clear hb); have hcz24_0 := yL BK30.out 0 (.slice A0_0 l0_0.length c0_0) rfl; have hcz24_1 := yL BK30.out 1 (.slice A0_1 l0_1.length c0_1) rfl; have hcz24_2 := yL BK30.out 2 (.slice A0_2 l0_2.length c0_2) rfl; have hcz24_3 := yL BK30.out 3 (.int .i64 a0_3) rfl; have hfz24_0 := zO BK30.out 0; have hfz24_1 := zO BK30.out 1; have hfz24_2 := zO BK30.out 2; have hfz24_3 := zO BK30.out 3)); go_loopg [3, 51] k1 (fun kq v3 v51 w' => ∃ (x3_2 : ByteArray) (x51_2 : Int), v3 = .string x3_2 ∧ v51 = .int .i64 x51_2 ∧ Aside0 (impl_Shown_bytes.l1 kq x3_2 l0_2 (l0_2.length : Int) x51_2 = some r) ∧ Aside0 (kq ≤ k1) ∧ Aside0 (w'.heap[gb30]? = some (.cells #[(.slice A0_0 l0_0.length c0_0), (.slice A0_1 l0_1.length c0_1), (.slice A0_2 l0_2.length c0_2), .int .i64 a0_3] 43 (0, 0))) ∧ Aside0 (Below w.heap.size w w'))
     case atStart => exact ⟨(x3_1 ++ t39), (0), (by first | rfl | (simp; done) | (simp [*]; done) | (simp [bne]; done)), (by first | rfl | (simp; done) | (simp [*]; done) | (simp [bne]; done)), H', ⟨Nat.le_refl _⟩, ⟨by (with_reducible repeat (first | refine zL ?_ _ | refine zN ?_ | refine zM ?_ _)); exact BK30.out⟩, ⟨by repeat (first | (with_reducible first | exact HB.out | apply zH | apply zF | apply zG | refine zI ?_ GE30.out) | exact HB.out)⟩⟩
     case round =>
      clear H'
      try clear c1
      try clear c2
      try clear p2
      try clear p3
      try clear q3
      try clear hx3
      try clear c6
      try clear p6
      try clear c7
      try clear c7b0
      try clear c8
      try clear c8b0
      try clear c9
      try clear c9b0
      try clear c11
      try clear c11b0
      try clear c11b1
      try clear c11b2
      try clear c12
      try clear c12b0
      try clear c14
      try clear c14b0
      try clear c14b1
      try clear c14b2
      try clear c15
      try clear c15b0
      try clear c15b1
      try clear c15b2
      try clear c16
      try clear c16b0
      try clear c16b1
      try clear c16b2
      try clear c21
      try clear c21b0
      try clear c21b1
      try clear c21b2
      try clear hcz22_0
      try clear hcz22_1
      try clear hcz22_2
      try clear hcz22_3
      try clear hcz24_0
      try clear hcz24_1
      try clear hcz24_2
      try clear hcz24_3
      try clear hcz4_0
      try clear hcz4_1
      try clear hcz4_2
      try clear hcz4_3
      try clear hcz6_0
      try clear hcz6_1
      try clear hcz6_2
      try clear hcz6_3
      try clear hfz22_0
      try clear hfz22_1
      try clear hfz22_2
      try clear hfz22_3
      try clear hfz24_0
      try clear hfz24_1
      try clear hfz24_2
      try clear hfz24_3
      try clear hfz4_0
      try clear hfz4_1
      try clear hfz4_2
      try clear hfz4_3
      try clear hfz6_0
      try clear hfz6_1
      try clear hfz6_2
      try clear hfz6_3
      try clear hx36_0
      try clear hx37_0
      try clear hx38_0
      try clear p2
      try clear p36
      try clear p37
      try clear p38
      try clear q36
      try clear q37
      try clear q38
      obtain ⟨x3_2, x51_2, rfl, rfl, HA, HK2, BK30, HB⟩ := hrel
      cases gk with
      | zero => exact absurd HA.out (by simp [impl_Shown_bytes.l1])
      | succ k2 =>
       have H := HA.out; clear HA; simp only [impl_Shown_bytes.l1] at H
       by_cases c25 : x51_2 < (l0_2.length : Int)
       ·rw [if_pos c25] at H
        have c25b0 : decide (x51_2 < (l0_2.length : Int)) = true := zX c25; clear c25
        by_cases c26 : 0 ≤ x51_2
        ·rw [if_pos c26] at H
         have c26b0 : decide (0 ≤ x51_2) = true := zX c26; clear c26
         by_cases c27 : x51_2 < (l0_2.length : Int)
         ·rw [if_pos c27] at H
          have c27b0 : decide (x51_2 < (l0_2.length : Int)) = true := zX c27; clear c27
          by_cases c28 : x3_2.size + (rdOf ByteArray.empty l0_2 x51_2).size ≤ 9223372036854775807
          ·rw [if_pos c28] at H
           have c28b0 := eq_true c28; have c28b1 : decide (x3_2.size + (rdOf ByteArray.empty l0_2 x51_2).size ≤ 9223372036854775807) = true := zX c28
           try have c28b2 : (9223372036854775807 < x3_2.size + (rdOf ByteArray.empty l0_2 x51_2).size) = False := eq_false (Nat.not_lt.2 c28)
           have H' := zA H; clear H; have p41 : 0 ≤ (x51_2 : Int) := zW (by first | (with_reducible assumption) | assumption); have q41 : x51_2 < (l0_2.length : Int) := zW (by first | (with_reducible assumption) | assumption); obtain ⟨ad41, e41, hx41_0⟩ := Kd.at_string HR0_2.out x51_2 p41 q41
           cases e41
           replace hx41_0 := (HB.out.cell (zB w _ hx41_0)).trans hx41_0; replace p41 := eq_true p41; replace q41 := eq_true q41; go_wp2; go_roundg k2
           case measure => have := HK1.out; have := HK2.out; omega
           case rel => exact ⟨(x3_2 ++ (rdOf ByteArray.empty l0_2 x51_2)), (wrap64 (x51_2 + 1)), (by first | rfl | (simp; done) | (simp [*]; done) | (simp [bne]; done)), (by first | rfl | (simp; done) | (simp [*]; done) | (simp [bne]; done)), H', ⟨by have := HK1.out; have := HK2.out; omega⟩, ⟨by (with_reducible repeat (first | refine zL ?_ _ | refine zN ?_ | refine zM ?_ _)); exact BK30.out⟩, ⟨by repeat (first | (with_reducible first | exact HB.out | apply zH | apply zF | apply zG | refine zI ?_ GE30.out) | exact HB.out)⟩⟩
          ·rw [if_neg c28] at H
           exact absurd H (by simp)
         ·rw [if_neg c27] at H
          exact absurd H (by simp)
        ·rw [if_neg c26] at H
         exact absurd H (by simp)
       ·rw [if_neg c25] at H
        have c25b0 : decide (x51_2 < (l0_2.length : Int)) = false := decide_eq_false c25; clear c25; obtain rfl := yM H; go_wp2; go_ret; exact ⟨by first | rfl | (simp <;> rfl) | (simp [*] <;> rfl), by repeat (first | (with_reducible first | exact HB.out | apply zH | apply zF | apply zG | refine zI ?_ GE30.out) | exact HB.out)⟩
    ·rw [if_neg c21] at H
     exact absurd H (by simp)
def impl_Shown_digest.f (k : Nat) (l0_0 : List ByteArray) (l0_1 : List ByteArray) (l0_2 : List ByteArray) (a0_3 : Int) : Option (ByteArray) := (impl_Shown_bytes.f k l0_0 l0_1 l0_2 a0_3).bind fun t10 => ((impl_digest.f k 103 t10).bind fun t11 => (some t11))
theorem impl_Shown_digest.calls (k : Nat) (A0_0 : Option Addr) (c0_0 : Nat) (l0_0 : List ByteArray) (A0_1 : Option Addr) (c0_1 : Nat) (l0_1 : List ByteArray) (A0_2 : Option Addr) (c0_2 : Nat) (l0_2 : List ByteArray) (a0_3 : Int) (r : ByteArray) (w : World) (hr0_0 : Kd.C Kd.string w A0_0 l0_0.length l0_0) (hc0_0 : l0_0.length ≤ c0_0) (hr0_1 : Kd.C Kd.string w A0_1 l0_1.length l0_1) (hc0_1 : l0_1.length ≤ c0_1) (hr0_2 : Kd.C Kd.string w A0_2 l0_2.length l0_2) (hc0_2 : l0_2.length ≤ c0_2) (h : impl_Shown_digest.f k l0_0 l0_1 l0_2 a0_3 = some r) :
  Calls Try.prog 29 #[.agg #[.slice A0_0 l0_0.length c0_0, .slice A0_1 l0_1.length c0_1, .slice A0_2 l0_2.length c0_2, .int .i64 a0_3]] w fun e w' => e = .returned (.string r) ∧ Below w.heap.size w w' := by
 have hu43 := Try.underlying43; have HR0_0 := zA hr0_0; have HC0_0 := zA hc0_0; clear hr0_0 hc0_0; have HR0_1 := zA hr0_1; have HC0_1 := zA hc0_1; clear hr0_1 hc0_1; have HR0_2 := zA hr0_2; have HC0_2 := zA hc0_2; clear hr0_2 hc0_2; have HB := zA (Below.refl w.heap.size w); have H : ((impl_Shown_bytes.f k l0_0 l0_1 l0_2 a0_3).bind fun t10 => ((impl_digest.f k 103 t10).bind fun t11 => (some t11))) = some r := h; clear h; replace H := zAF H; obtain ⟨t10, A20, H⟩ := H; replace H : ((impl_digest.f k 103 t10).bind fun t11 => (some t11)) = some r := H; have A2 := zA A20; clear A20; replace H := zAF H; obtain ⟨t11, A30, H⟩ := H; replace H : (some t11) = some r := H; have A3 := zA A30; clear A30; obtain rfl := yM H; go_enter Try.func29, Try.ntmps29; go_wp2_with (first | ((with_reducible refine gate_dst (N := 1) rfl ?_); refine box_event ?hg (N := 1) ?hd (cs := #[.slice A0_0 l0_0.length c0_0, .slice A0_1 l0_1.length c0_1, .slice A0_2 l0_2.length c0_2, .int .i64 a0_3]) (t := 43) ?hr ?_; (case hd => rfl); (case hg => rfl); (case hr => first | (go_simp; done) | (go_simp; rfl)); intro gb12 hg w4 hbox hb; have n0_ := zA (zAD (by (with_reducible repeat first | exact HB.out | apply zH | apply zF | apply zG) <;> exact HB.out) hb); have n1_ := zA (hbox); have n2_ := zA ((by rw [hg]; exact (zAE (by (with_reducible repeat first | exact HB.out | apply zH | apply zF | apply zG) <;> exact HB.out)) : w.heap.size ≤ gb12)); have n3_ := zA ((by rw [hg]; exact (zAE (by (with_reducible repeat first | exact HB.out | apply zH | apply zF | apply zG) <;> exact HB.out)) : w.heap.size ≤ gb12)); clear HB; have HB := n0_; have BK12 := n1_; have GW12 := n2_; have GE12 := n3_; clear n0_ n1_ n2_ n3_; clear hb hbox hg; have hcz5_0 := yL BK12.out 0 (.slice A0_0 l0_0.length c0_0) rfl; have hcz5_1 := yL BK12.out 1 (.slice A0_1 l0_1.length c0_1) rfl; have hcz5_2 := yL BK12.out 2 (.slice A0_2 l0_2.length c0_2) rfl; have hcz5_3 := yL BK12.out 3 (.int .i64 a0_3) rfl; have hfz5_0 := zO BK12.out 0; have hfz5_1 := zO BK12.out 1; have hfz5_2 := zO BK12.out 2; have hfz5_3 := zO BK12.out 3) | ((with_reducible refine yB (f := 67) rfl ?_); refine goesL_ (some 4) rfl rfl Try.func67 (by kernel_rfl) rfl #[.agg #[.slice A0_0 l0_0.length c0_0, .slice A0_1 l0_1.length c0_1, .slice A0_2 l0_2.length c0_2, .int .i64 a0_3]] rfl (by (try simp only [zAA, zAB, zAC]); first | done | rfl | (simp only [zZ, zY]; rfl)) ?_; (with_reducible refine (impl_Shown_bytes.calls k _ _ l0_0 _ _ l0_1 _ _ l0_2 a0_3 t10 _ ?side1 ?side2 ?side3 ?side4 ?side5 ?side6 A2.out).mono ?_); (case side1 => repeat (first | exact (yN HR0_0.out HB.out) | (with_reducible first | refine zT ?_ _ | refine zU ?_ _ | refine zV ?_))); (case side2 => exact HC0_0.out); (case side3 => repeat (first | exact (yN HR0_1.out HB.out) | (with_reducible first | refine zT ?_ _ | refine zU ?_ _ | refine zV ?_))); (case side4 => exact HC0_1.out); (case side5 => repeat (first | exact (yN HR0_2.out HB.out) | (with_reducible first | refine zT ?_ _ | refine zU ?_ _ | refine zV ?_))); (case side6 => exact HC0_2.out); rintro e w6 ⟨rfl, hb⟩; refine ⟨_, rfl, ?_⟩; have n0_ := zA (yE (g := gb12) (o := .cells #[.slice A0_0 l0_0.length c0_0, .slice A0_1 l0_1.length c0_1, .slice A0_2 l0_2.length c0_2, .int .i64 a0_3] 43 (0, 0)) (by (with_reducible repeat (first | refine zL ?_ _ | refine zN ?_ | refine zM ?_ _)); exact BK12.out) hb); have n1_ := zA (zAD (by repeat (first | (with_reducible first | exact HB.out | apply zH | apply zF | apply zG | refine zI ?_ GE12.out) | exact HB.out)) hb); clear BK12; clear HB; have BK12 := n0_; have HB := n1_; clear n0_ n1_; (try clear hb)) | ((with_reducible refine yB (f := 66) rfl ?_); refine goesL_ (some 5) rfl rfl Try.func66 (by kernel_rfl) rfl #[.int .u8 103, .string t10] rfl (by (try simp only [zAA, zAB, zAC]); first | done | rfl) ?_; (with_reducible refine (impl_digest.calls k 103 t10 t11 _ A3.out).mono ?_); rintro e w7 ⟨rfl, hb⟩; refine ⟨_, rfl, ?_⟩; have n0_ := zA (yE (g := gb12) (o := .cells #[.slice A0_0 l0_0.length c0_0, .slice A0_1 l0_1.length c0_1, .slice A0_2 l0_2.length c0_2, .int .i64 a0_3] 43 (0, 0)) (by (with_reducible repeat (first | refine zL ?_ _ | refine zN ?_ | refine zM ?_ _)); exact BK12.out) hb); have n1_ := zA (zAD (by repeat (first | (with_reducible first | exact HB.out | apply zH | apply zF | apply zG | refine zI ?_ GE12.out) | exact HB.out)) hb); clear BK12; clear HB; have BK12 := n0_; have HB := n1_; clear n0_ n1_; (try clear hb))); go_ret; exact ⟨by first | rfl | (simp <;> rfl) | (simp [*] <;> rfl), by repeat (first | (with_reducible first | exact HB.out | apply zH | apply zF | apply zG | refine zI ?_ GE12.out) | exact HB.out)⟩
mutual
def impl_node_shown.l0 : Nat → List (S74) → Int → Int → List ByteArray → List ByteArray → List ByteArray → Int → Option (List ByteArray × List ByteArray × List ByteArray × Int)
 | 0, _, _, _, _, _, _, _ => none
 | k + 1, x20, x21, x22, x10, x11, x12, x13 => if x22 < x21 then (if 0 ≤ x22 then (if x22 < (x20.length : Int) then ((impl_node_shown.f k (rd_N74 x20 x22)).bind fun bt14 => ((impl_Shown_digest.f k bt14.1 bt14.2.1 bt14.2.2.1 bt14.2.2.2).bind fun t15 => (if x12.length < 8796093022208 then (impl_node_shown.l0 k x20 x21 (wrap64 (x22 + 1)) x10 x11 (x12 ++ [t15]) x13) else (none)))) else (none)) else (none)) else (some (x10, x11, x12, x13))
def impl_node_shown.f : Nat → S74 → Option (List ByteArray × List ByteArray × List ByteArray × Int)
 | 0, _ => none
 | k + 1, a0 => (slices_Clone_string_string.f a0.f0).bind fun t16 => ((slices_Clone_string_string.f a0.f1).bind fun t17 => (impl_node_shown.l0 k a0.f2 (a0.f2.length : Int) 0 t16 t17 ([] : List ByteArray) 0))
end
def impl_node_shown.T1 : Bool × List (List Nat × List Nat) := (true, [([], []), ([0], [0]), ([1], [1]), ([2], [2]), ([3], [3]), ([], []), ([5], [5]), ([6], [6]), ([7], [7]), ([8, 4], [8]), ([4, 9], [4, 9]), ([], []), ([11, 10, 9, 0, 1, 2, 3, 4, 5, 6, 7, 8, 9, 10, 11], [10, 11])])
def impl_node_shown.B1 : List Nat := [0, 1, 3, 7, 15, 0, 32, 96, 224, 511, 1023, 0, 4095]
theorem impl_node_shown.tab1 : rtab .any (opsOf Try.f28 1) = impl_node_shown.T1 := by kernel_rfl
theorem impl_node_shown.bits1 : waitsOk impl_node_shown.T1.2 impl_node_shown.B1 = true := by kernel_rfl
def impl_node_shown.T5 : Bool × List (List Nat × List Nat) := (true, [([], []), ([0], [0]), ([], []), ([2], [2]), ([3, 3], [3]), ([4], [4]), ([1, 5, 4], [1, 5]), ([0, 1, 2, 3, 4, 5, 6], []), ([7, 6, 6, 0, 1, 2, 3, 4, 5, 6], [6, 7])])
def impl_node_shown.B5 : List Nat := [0, 1, 0, 4, 12, 28, 63, 127, 255]
theorem impl_node_shown.tab5 : rtab .any (opsOf Try.f28 5) = impl_node_shown.T5 := by kernel_rfl
theorem impl_node_shown.bits5 : waitsOk impl_node_shown.T5.2 impl_node_shown.B5 = true := by kernel_rfl
theorem impl_node_shown.calls (k : Nat) : ∀ (a0 : S74) (r1 : List ByteArray) (r2 : List ByteArray) (r3 : List ByteArray) (r4 : Int) (w : World) (hr0 : k74p.K w a0 [.pointer (some ⟨a0.adr, 0, none⟩)]) (h : impl_node_shown.f k a0 = some (r1, r2, r3, r4)),
  Calls Try.prog 28 #[.pointer (some ⟨a0.adr, 0, none⟩)] w fun e w' => ∃ v0_ v1_ v2_ : Value, e = .returned (.agg #[v0_, v1_, v2_, .int .i64 r4]) ∧ Kd.R Kd.string 9 w' w.heap.size (fun k_ => some k_ ≠ (v1_ : Value).ownBlock ∧ some k_ ≠ (v2_ : Value).ownBlock) v0_ r1 ∧ Kd.R Kd.string 9 w' w.heap.size (fun k_ => some k_ ≠ (v0_ : Value).ownBlock ∧ some k_ ≠ (v2_ : Value).ownBlock) v1_ r2 ∧ Kd.R Kd.string 9 w' w.heap.size (fun k_ => some k_ ≠ (v0_ : Value).ownBlock ∧ some k_ ≠ (v1_ : Value).ownBlock) v2_ r3 ∧ Below w.heap.size w w' := by
 induction k using Nat.strongRecOn with
 | _ k ih =>
 intro a0 r1 r2 r3 r4 w hr0 h
 cases k with
 | zero => exact absurd h (by simp [impl_node_shown.f])
 | succ k =>
 simp only [impl_node_shown.f] at h; have hu43 := Try.underlying43; have hu74 := Try.underlying74; have hu60 := Try.underlying60; have HR0 := zA hr0; clear hr0; obtain ⟨An0_0, cn0_0, An0_1, cn0_1, An0_2, cn0_2, hsn0_0, hsn0_1, hsn0_2, hln0_0, hin0_0, hln0_1, hin0_1, hln0_2, hin0_2⟩ := at_P74 HR0.out; have HXn0_0 := zA hsn0_0; have HRn0_0 := zA hin0_0; have HCn0_0 := zA hln0_0; have HXn0_1 := zA hsn0_1; have HRn0_1 := zA hin0_1; have HCn0_1 := zA hln0_1; have HXn0_2 := zA hsn0_2; have HRn0_2 := zA hin0_2; have HCn0_2 := zA hln0_2; clear hsn0_0 hin0_0 hln0_0 hsn0_1 hin0_1 hln0_1 hsn0_2 hin0_2 hln0_2; have HB := zA (Below.refl w.heap.size w); have H : ((slices_Clone_string_string.f a0.f0).bind fun t37 => ((slices_Clone_string_string.f a0.f1).bind fun t38 => (impl_node_shown.l0 k a0.f2 (a0.f2.length : Int) 0 t37 t38 ([] : List ByteArray) 0))) = some (r1, r2, r3, r4) := h; clear h; replace H := zAF H; obtain ⟨t37, A20, H⟩ := H; replace H : ((slices_Clone_string_string.f a0.f1).bind fun t38 => (impl_node_shown.l0 k a0.f2 (a0.f2.length : Int) 0 t37 t38 ([] : List ByteArray) 0)) = some (r1, r2, r3, r4) := H; have A2 := zA A20; clear A20; replace H := zAF H; obtain ⟨t38, A30, H⟩ := H; replace H : (impl_node_shown.l0 k a0.f2 (a0.f2.length : Int) 0 t37 t38 ([] : List ByteArray) 0) = some (r1, r2, r3, r4) := H; have A3 := zA A30; clear A30; have H' := zA H; clear H; go_enter Try.func28, Try.ntmps28
 try go_wp2_with (first | ((with_reducible refine gate_dst (N := 2) rfl ?_); refine box_event ?hg (N := 2) ?hd (cs := #[.slice none 0 0, .slice none 0 0, .slice none 0 0, .int .i64 0]) (t := 43) ?hr ?_; (case hd => rfl); (case hg => rfl); (case hr => first | (go_simp; done) | (go_simp; rfl)); intro gb39 hg w4 hbox hb; have n0_ := zA (zAD (by (with_reducible repeat first | exact HB.out | apply zH | apply zF | apply zG) <;> exact HB.out) hb); have n1_ := zA (hbox); have n2_ := zA ((by rw [hg]; exact (zAE (by (with_reducible repeat first | exact HB.out | apply zH | apply zF | apply zG) <;> exact HB.out)) : w.heap.size ≤ gb39)); have n3_ := zA ((by rw [hg]; exact (zAE (by (with_reducible repeat first | exact HB.out | apply zH | apply zF | apply zG) <;> exact HB.out)) : w.heap.size ≤ gb39)); clear HB; have HB := n0_; have BK39 := n1_; have GW39 := n2_; have GE39 := n3_; clear n0_ n1_ n2_ n3_; clear hb hbox hg))
 have n0_ := zA (zN BK39.out); have n1_ := zA (zG HB.out); clear BK39 HB; have BK39 := n0_; have HB := n1_; clear n0_ n1_; have hx40_0 := HXn0_0.out; have hw40_0 := hx40_0; (try rw [show ((0 : Int)).toNat = 0 from rfl] at hw40_0); (try rw [show 0 * 3 = 0 from rfl] at hw40_0); (try rw [Addr.add_zero'] at hw40_0); have hx40_1 := HXn0_1.out; have hw40_1 := hx40_1; (try rw [show ((0 : Int)).toNat = 0 from rfl] at hw40_1); (try rw [show 0 * 3 = 0 from rfl] at hw40_1); (try rw [Addr.add_zero'] at hw40_1); have hx40_2 := HXn0_2.out; have hw40_2 := hx40_2; (try rw [show ((0 : Int)).toNat = 0 from rfl] at hw40_2); (try rw [show 0 * 3 = 0 from rfl] at hw40_2); (try rw [Addr.add_zero'] at hw40_2); replace hx40_0 := (HB.out.cell (zB w _ hx40_0)).trans hx40_0; replace hx40_1 := (HB.out.cell (zB w _ hx40_1)).trans hx40_1; replace hx40_2 := (HB.out.cell (zB w _ hx40_2)).trans hx40_2; have hx41_0 := HXn0_0.out; have hw41_0 := hx41_0; (try rw [show ((0 : Int)).toNat = 0 from rfl] at hw41_0); (try rw [show 0 * 3 = 0 from rfl] at hw41_0); (try rw [Addr.add_zero'] at hw41_0); have hx41_1 := HXn0_1.out; have hw41_1 := hx41_1; (try rw [show ((0 : Int)).toNat = 0 from rfl] at hw41_1); (try rw [show 0 * 3 = 0 from rfl] at hw41_1); (try rw [Addr.add_zero'] at hw41_1); have hx41_2 := HXn0_2.out; have hw41_2 := hx41_2; (try rw [show ((0 : Int)).toNat = 0 from rfl] at hw41_2); (try rw [show 0 * 3 = 0 from rfl] at hw41_2); (try rw [Addr.add_zero'] at hw41_2); replace hx41_0 := (HB.out.cell (zB w _ hx41_0)).trans hx41_0; replace hx41_1 := (HB.out.cell (zB w _ hx41_1)).trans hx41_1; replace hx41_2 := (HB.out.cell (zB w _ hx41_2)).trans hx41_2; refine start_ (n := 13) (S := fun w' => w'.cell? ⟨a0.adr, 0, none⟩ = some (.slice An0_0 a0.f0.length cn0_0) ∧ w'.cell? ⟨a0.adr, 1, none⟩ = some (.slice An0_1 a0.f1.length cn0_1) ∧ w'.cell? ⟨a0.adr, 2, none⟩ = some (.slice An0_2 a0.f2.length cn0_2) ∧ w'.cell? ⟨a0.adr, 0, none⟩ = some (.slice An0_0 a0.f0.length cn0_0) ∧ w'.cell? ⟨a0.adr, 1, none⟩ = some (.slice An0_1 a0.f1.length cn0_1) ∧ w'.cell? ⟨a0.adr, 2, none⟩ = some (.slice An0_2 a0.f2.length cn0_2)) (ds := []) #[false, false, false, false, false, false, false, false, false, false, false, false, false] (by kernel_rfl) rfl rfl ⟨((HB.out.cell (zB w _ hw40_0)).trans hw40_0), ((HB.out.cell (zB w _ hw40_1)).trans hw40_1), ((HB.out.cell (zB w _ hw40_2)).trans hw40_2), ((HB.out.cell (zB w _ hw41_0)).trans hw41_0), ((HB.out.cell (zB w _ hw41_1)).trans hw41_1), ((HB.out.cell (zB w _ hw41_2)).trans hw41_2)⟩ (fun hHeld => ?_); refine with_tabW impl_node_shown.tab1 impl_node_shown.bits1 (fun HT_ HW_ => ?_); generalize w4.drew = w5 at BK39 HB hx40_0 hx40_1 hx40_2 hx41_0 hx41_1 hx41_2 hHeld ⊢; refine pure_ (i := 0) (N := some 6) (v := ?_) (a' := ?_) #[true, false, false, false, false, false, false, false, false, false, false, false, false] rfl rfl (any_of HT_.out (by kernel_rfl)) (fun _ _ _ h => h) (Or.inl ⟨by rfl, ?_⟩) ?_ ?_; rotate_left
 ·intro w'
  go_simp
  with_reducible rfl
 rotate_left
 ·simp only [Act.put, zC, zD, zE, i64_w]
  rfl
 refine pure_ (i := 1) (N := some 7) (v := ?_) (a' := ?_) #[true, true, false, false, false, false, false, false, false, false, false, false, false] rfl rfl (any_of HT_.out (by kernel_rfl)) (fun _ _ _ h => h) (Or.inl ⟨by rfl, ?_⟩) ?_ ?_; rotate_left
 ·intro w'
  go_simp
  with_reducible rfl
 rotate_left
 ·simp only [Act.put, zC, zD, zE, i64_w]
  rfl
 refine pure_ (i := 2) (N := some 8) (v := ?_) (a' := ?_) #[true, true, true, false, false, false, false, false, false, false, false, false, false] rfl rfl (any_of HT_.out (by kernel_rfl)) (fun _ _ _ h => h) (Or.inl ⟨by rfl, ?_⟩) ?_ ?_; rotate_left
 ·intro w'
  go_simp
  with_reducible rfl
 rotate_left
 ·simp only [Act.put, zC, zD, zE, i64_w]
  rfl
 refine pure_ (i := 5) (N := some 11) (v := ?_) (a' := ?_) #[true, true, true, false, false, true, false, false, false, false, false, false, false] rfl rfl (any_of HT_.out (by kernel_rfl)) (fun _ _ _ h => h) (Or.inl ⟨by rfl, ?_⟩) ?_ ?_; rotate_left
 ·intro w'
  go_simp
  with_reducible rfl
 rotate_left
 ·simp only [Act.put, zC, zD, zE, i64_w]
  rfl
 refine pure_ (i := 6) (N := some 12) (v := ?_) (a' := ?_) #[true, true, true, false, false, true, true, false, false, false, false, false, false] rfl rfl (any_of HT_.out (by kernel_rfl)) (fun _ _ _ h => h) (Or.inl ⟨by rfl, ?_⟩) ?_ ?_; rotate_left
 ·intro w'
  go_simp
  with_reducible rfl
 rotate_left
 ·simp only [Act.put, zC, zD, zE, i64_w]
  rfl
 refine pure_ (i := 7) (N := some 13) (v := ?_) (a' := ?_) #[true, true, true, false, false, true, true, true, false, false, false, false, false] rfl rfl (any_of HT_.out (by kernel_rfl)) (fun _ _ _ h => h) (Or.inl ⟨by rfl, ?_⟩) ?_ ?_; rotate_left
 ·intro w'
  go_simp
  with_reducible rfl
 rotate_left
 ·simp only [Act.put, zC, zD, zE, i64_w]
  rfl
 refine take_ (i := 3) (N := some 9) (v := ?_) (a' := ?_) #[true, true, true, true, false, true, true, true, false, false, false, false, false] rfl rfl (take_ofW HT_.out HW_.out (by kernel_rfl)) (fun _ _ _ h => h) (Or.inl ⟨by rfl, ?_⟩) hHeld ?_ ?_; rotate_left
 ·rintro w' ⟨s0, s1, s2, s3, s4, s5⟩
  go_simp
  with_reducible rfl
 rotate_left
 ·simp only [Act.put, zC, zD, zE, i64_w]
  rfl
 refine take_ (i := 8) (N := some 14) (v := ?_) (a' := ?_) #[true, true, true, true, false, true, true, true, true, false, false, false, false] rfl rfl (take_ofW HT_.out HW_.out (by kernel_rfl)) (fun _ _ _ h => h) (Or.inl ⟨by rfl, ?_⟩) hHeld ?_ ?_; rotate_left
 ·rintro w' ⟨s0, s1, s2, s3, s4, s5⟩
  go_simp
  with_reducible rfl
 rotate_left
 ·simp only [Act.put, zC, zD, zE, i64_w]
  rfl
 refine join_ (σ := Value × Value × Nat) 1 #[true, true, true, true, true, true, true, true, true, true, true, true, false] (fun s_ => [(10, s_.1), (15, s_.2.1), (3, .pointer (some ⟨s_.2.2, 0, none⟩)), (16, .agg #[s_.1, s_.2.1, .slice none 0 0, .int .i64 0])]) (fun s_ w' => (w'.cell? ⟨a0.adr, 0, none⟩ = some (.slice An0_0 a0.f0.length cn0_0) ∧ w'.cell? ⟨a0.adr, 1, none⟩ = some (.slice An0_1 a0.f1.length cn0_1) ∧ w'.cell? ⟨a0.adr, 2, none⟩ = some (.slice An0_2 a0.f2.length cn0_2) ∧ w'.cell? ⟨a0.adr, 0, none⟩ = some (.slice An0_0 a0.f0.length cn0_0) ∧ w'.cell? ⟨a0.adr, 1, none⟩ = some (.slice An0_1 a0.f1.length cn0_1) ∧ w'.cell? ⟨a0.adr, 2, none⟩ = some (.slice An0_2 a0.f2.length cn0_2)) ∧ (Kd.R Kd.string 9 w' w.heap.size (fun k_ => some k_ ≠ (s_.2.1 : Value).ownBlock) s_.1 t37) ∧ (Kd.R Kd.string 9 w' w.heap.size (fun k_ => some k_ ≠ (s_.1 : Value).ownBlock) s_.2.1 t38) ∧ (w'.heap[gb39]? = some (.cells #[.slice none 0 0, .slice none 0 0, .slice none 0 0, .int .i64 0] 43 (0, 0))) ∧ (w'.heap[s_.2.2]? = some (.cells #[.slice none 0 0, .slice none 0 0, .slice none 0 0, .int .i64 0] 43 (0, 0))) ∧ (w.heap.size ≤ s_.2.2) ∧ (w.heap.size ≤ s_.2.2) ∧ (gb39 ≠ s_.2.2) ∧ (s_.2.2 ≠ gb39) ∧ (Below w.heap.size w w')) ?_ ?_; rotate_left
 ·intro hCont
  refine two_ (i := 4) (j := 11) (Ni := some 10) (Nj := some 3) #[true, true, true, true, true, true, true, true, true, false, false, false, false] #[true, true, true, true, false, true, true, true, true, false, false, true, false] rfl rfl rfl rfl (two_of HT_.out (by kernel_rfl)) (by decide) (by decide) (fun K hK => ?_) (fun K hK => ?_)
  ·skip
   refine goes_ Try.func65 (by kernel_rfl) rfl #[.slice An0_0 a0.f0.length cn0_0] (by rfl) rfl rfl (by (try simp only [zAA, zAB, zAC]); first | done | rfl | (simp only [zZ, zY]; rfl)) ?_
   with_reducible refine (slices_Clone_string_string.calls _ _ a0.f0 t37 _ ?side1 ?side2 A2.out).mono ?_
   (case side1 => repeat (first | exact (yN HRn0_0.out HB.out) | (with_reducible first | refine zT ?_ _ | refine zU ?_ _ | refine zV ?_))); (case side2 => exact HCn0_0.out); rintro e w6 ⟨v42, rfl, ho0, hb⟩; refine ⟨_, rfl, ?_⟩; have n0_ := zA (Kd.R_lower ho0 (zAE (by repeat (first | (with_reducible first | exact HB.out | apply zH | apply zF | apply zG | refine zI ?_ GE39.out) | exact HB.out)))); have n1_ := zA (yE (g := gb39) (o := .cells #[.slice none 0 0, .slice none 0 0, .slice none 0 0, .int .i64 0] 43 (0, 0)) (by (with_reducible repeat (first | refine zL ?_ _ | refine zN ?_ | refine zM ?_ _)); exact BK39.out) hb); have n2_ := zA (zAD (by repeat (first | (with_reducible first | exact HB.out | apply zH | apply zF | apply zG | refine zI ?_ GE39.out) | exact HB.out)) hb); clear BK39 HB; have HO44 := n0_; have BK39 := n1_; have HB := n2_; clear n0_ n1_ n2_; (try clear hb); (try clear ho0); refine hK.out _ _ ⟨((HB.out.cell (zB w _ hw40_0)).trans hw40_0), ((HB.out.cell (zB w _ hw40_1)).trans hw40_1), ((HB.out.cell (zB w _ hw40_2)).trans hw40_2), ((HB.out.cell (zB w _ hw41_0)).trans hw41_0), ((HB.out.cell (zB w _ hw41_1)).trans hw41_1), ((HB.out.cell (zB w _ hw41_2)).trans hw41_2)⟩ (fun hHeld => ?_); clear hK K; refine norm_ (a' := ?_) ?_ ?_; rotate_left
   ·show Act.put _ (some 10) _ = _
    simp only [Act.put, zC, zD, zE, i64_w]; rfl
   refine two_ (i := 9) (j := 11) (Ni := some 15) (Nj := some 3) #[true, true, true, true, true, true, true, true, true, true, false, false, false] #[true, true, true, true, true, true, true, true, true, false, false, true, false] rfl rfl rfl rfl (two_of HT_.out (by kernel_rfl)) (by decide) (by decide) (fun K hK => ?_) (fun K hK => ?_)
   ·skip
    refine goes_ Try.func65 (by kernel_rfl) rfl #[.slice An0_1 a0.f1.length cn0_1] (by rfl) rfl rfl (by (try simp only [zAA, zAB, zAC]); first | done | rfl | (simp only [zZ, zY]; rfl)) ?_
    with_reducible refine (slices_Clone_string_string.calls _ _ a0.f1 t38 _ ?side1 ?side2 A3.out).mono ?_
    (case side1 => repeat (first | exact (yN HRn0_1.out HB.out) | (with_reducible first | refine zT ?_ _ | refine zU ?_ _ | refine zV ?_))); (case side2 => exact HCn0_1.out); rintro e w7 ⟨v45, rfl, ho0, hb⟩; refine ⟨_, rfl, ?_⟩; have n0_ := zA (yJ (by (with_reducible repeat first | apply zQ | apply zR | apply zS); exact HO44.out) (Kd.R_base ho0) hb); have n1_ := zA (Kd.R_lower (yK ho0 (Kd.R_lt (by (with_reducible repeat first | apply zQ | apply zR | apply zS); exact HO44.out))) (zAE (by repeat (first | (with_reducible first | exact HB.out | apply zH | apply zF | apply zG | refine zI ?_ GE39.out) | exact HB.out)))); have n2_ := zA (yE (g := gb39) (o := .cells #[.slice none 0 0, .slice none 0 0, .slice none 0 0, .int .i64 0] 43 (0, 0)) (by (with_reducible repeat (first | refine zL ?_ _ | refine zN ?_ | refine zM ?_ _)); exact BK39.out) hb); have n3_ := zA (zAD (by repeat (first | (with_reducible first | exact HB.out | apply zH | apply zF | apply zG | refine zI ?_ GE39.out) | exact HB.out)) hb); clear HO44 BK39 HB; have HO44 := n0_; have HO46 := n1_; have BK39 := n2_; have HB := n3_; clear n0_ n1_ n2_ n3_; (try clear hb); (try clear ho0); obtain ⟨Ao8, co8, eo8⟩ := Kd.R_slice HO46.out; (first | subst eo8 | (injection eo8 with f1_ f2_ f3_; have f4_ := f1_.symm; have f5_ := f3_.symm; clear f1_ f2_ f3_; subst f4_; subst f5_)); obtain ⟨Ao9, co9, eo9⟩ := Kd.R_slice HO44.out; (first | subst eo9 | (injection eo9 with f1_ f2_ f3_; have f4_ := f1_.symm; have f5_ := f3_.symm; clear f1_ f2_ f3_; subst f4_; subst f5_)); refine hK.out _ _ ⟨((HB.out.cell (zB w _ hw40_0)).trans hw40_0), ((HB.out.cell (zB w _ hw40_1)).trans hw40_1), ((HB.out.cell (zB w _ hw40_2)).trans hw40_2), ((HB.out.cell (zB w _ hw41_0)).trans hw41_0), ((HB.out.cell (zB w _ hw41_1)).trans hw41_1), ((HB.out.cell (zB w _ hw41_2)).trans hw41_2)⟩ (fun hHeld => ?_); clear hK K; refine norm_ (a' := ?_) ?_ ?_; rotate_left
    ·show Act.put _ (some 15) _ = _
     simp only [Act.put, zC, zD, zE, i64_w]; rfl
    refine pure_ (i := 10) (N := some 16) (v := ?_) (a' := ?_) #[true, true, true, true, true, true, true, true, true, true, true, false, false] rfl rfl (any_of HT_.out (by kernel_rfl)) (fun _ _ _ h => h) (Or.inl ⟨by rfl, ?_⟩) ?_ ?_; rotate_left
    ·intro w'
     go_simp
     with_reducible rfl
    rotate_left
    ·simp only [Act.put, zC, zD, zE, i64_w]
     rfl
    refine one_ (i := 11) (N := some 3) #[true, true, true, true, true, true, true, true, true, true, true, true, false] rfl rfl (one_of HT_.out (by kernel_rfl)) (by decide) (fun K hK => ?_); refine box_step ?hg (N := 3) ?hd (cs := #[.slice none 0 0, .slice none 0 0, .slice none 0 0, .int .i64 0]) (t := 43) ?hr ?_; (case hd => rfl); (case hg => rfl); (case hr => first | (go_simp; done) | (go_simp; rfl)); intro gb47 hg w10 hbox hb; have n0_ := zA (Kd.R_below (by (with_reducible repeat first | apply zQ | apply zR | apply zS); exact HO44.out) hb); have n1_ := zA (Kd.R_below (by (with_reducible repeat first | apply zQ | apply zR | apply zS); exact HO46.out) hb); have n2_ := zA (yE (g := gb39) (o := .cells #[.slice none 0 0, .slice none 0 0, .slice none 0 0, .int .i64 0] 43 (0, 0)) (by (with_reducible repeat (first | refine zL ?_ _ | refine zN ?_ | refine zM ?_ _)); exact BK39.out) hb); have n3_ := zA (zAD (by repeat (first | (with_reducible first | exact HB.out | apply zH | apply zF | apply zG | refine zI ?_ GE39.out) | exact HB.out)) hb); have n4_ := zA (hbox); have n5_ := zA ((by rw [hg]; exact (zAE (by repeat (first | (with_reducible first | exact HB.out | apply zH | apply zF | apply zG | refine zI ?_ GE39.out) | exact HB.out))) : w.heap.size ≤ gb47)); have n6_ := zA ((by rw [hg]; exact (zAE (by repeat (first | (with_reducible first | exact HB.out | apply zH | apply zF | apply zG | refine zI ?_ GE39.out) | exact HB.out))) : w.heap.size ≤ gb47)); have n7_ := zA ((by rw [hg]; exact zK (blk_lt (g := gb39) (o := .cells #[.slice none 0 0, .slice none 0 0, .slice none 0 0, .int .i64 0] 43 (0, 0)) (by (with_reducible repeat (first | refine zL ?_ _ | refine zN ?_ | refine zM ?_ _)); exact BK39.out)) : gb39 ≠ gb47)); have n8_ := zA ((by rw [hg]; exact Nat.ne_of_gt (blk_lt (g := gb39) (o := .cells #[.slice none 0 0, .slice none 0 0, .slice none 0 0, .int .i64 0] 43 (0, 0)) (by (with_reducible repeat (first | refine zL ?_ _ | refine zN ?_ | refine zM ?_ _)); exact BK39.out)) : gb47 ≠ gb39)); clear HO44 HO46 BK39 HB; have HO44 := n0_; have HO46 := n1_; have BK39 := n2_; have HB := n3_; have BK47 := n4_; have GW47 := n5_; have GE47 := n6_; have NB39_47 := n7_; have NB47_39 := n8_; clear n0_ n1_ n2_ n3_ n4_ n5_ n6_ n7_ n8_ hb hbox hg; refine hK.out _ _ ⟨((HB.out.cell (zB w _ hw40_0)).trans hw40_0), ((HB.out.cell (zB w _ hw40_1)).trans hw40_1), ((HB.out.cell (zB w _ hw40_2)).trans hw40_2), ((HB.out.cell (zB w _ hw41_0)).trans hw41_0), ((HB.out.cell (zB w _ hw41_1)).trans hw41_1), ((HB.out.cell (zB w _ hw41_2)).trans hw41_2)⟩ (fun hHeld => ?_); clear hK K; refine norm_ (a' := ?_) ?_ ?_; rotate_left
    ·show Act.put _ (some 3) _ = _
     simp only [Act.put, zC, zD, zE, i64_w]; rfl
    exact norm_ (by simp only [putAll, Act.put, zC, zD, zE]) (hCont (.slice Ao9 t37.length co9, .slice Ao8 t38.length co8, gb47) _ ⟨hHeld, (by (with_reducible repeat first | apply zQ | apply zR | apply zS); exact yC HO44.out (fun _ hk => hk.2)), (by (with_reducible repeat first | apply zQ | apply zR | apply zS); exact yC HO46.out (fun _ hk => hk.2)), (by (with_reducible repeat (first | refine zL ?_ _ | refine zN ?_ | refine zM ?_ _)); exact BK39.out), (by (with_reducible repeat (first | refine zL ?_ _ | refine zN ?_ | refine zM ?_ _)); exact BK47.out), GW47.out, GE47.out, NB39_47.out, NB47_39.out, (by repeat (first | (with_reducible first | exact HB.out | apply zH | apply zF | apply zG | refine zI ?_ GE39.out | refine zI ?_ GE47.out) | exact HB.out))⟩)
   ·skip
    refine box_step ?hg (N := 3) ?hd (cs := #[.slice none 0 0, .slice none 0 0, .slice none 0 0, .int .i64 0]) (t := 43) ?hr ?_; (case hd => rfl); (case hg => rfl); (case hr => first | (go_simp; done) | (go_simp; rfl)); intro gb47 hg w7 hbox hb; have n0_ := zA (Kd.R_below (by (with_reducible repeat first | apply zQ | apply zR | apply zS); exact HO44.out) hb); have n1_ := zA (yE (g := gb39) (o := .cells #[.slice none 0 0, .slice none 0 0, .slice none 0 0, .int .i64 0] 43 (0, 0)) (by (with_reducible repeat (first | refine zL ?_ _ | refine zN ?_ | refine zM ?_ _)); exact BK39.out) hb); have n2_ := zA (zAD (by repeat (first | (with_reducible first | exact HB.out | apply zH | apply zF | apply zG | refine zI ?_ GE39.out) | exact HB.out)) hb); have n3_ := zA (hbox); have n4_ := zA ((by rw [hg]; exact (zAE (by repeat (first | (with_reducible first | exact HB.out | apply zH | apply zF | apply zG | refine zI ?_ GE39.out) | exact HB.out))) : w.heap.size ≤ gb47)); have n5_ := zA ((by rw [hg]; exact (zAE (by repeat (first | (with_reducible first | exact HB.out | apply zH | apply zF | apply zG | refine zI ?_ GE39.out) | exact HB.out))) : w.heap.size ≤ gb47)); have n6_ := zA ((by rw [hg]; exact zK (blk_lt (g := gb39) (o := .cells #[.slice none 0 0, .slice none 0 0, .slice none 0 0, .int .i64 0] 43 (0, 0)) (by (with_reducible repeat (first | refine zL ?_ _ | refine zN ?_ | refine zM ?_ _)); exact BK39.out)) : gb39 ≠ gb47)); have n7_ := zA ((by rw [hg]; exact Nat.ne_of_gt (blk_lt (g := gb39) (o := .cells #[.slice none 0 0, .slice none 0 0, .slice none 0 0, .int .i64 0] 43 (0, 0)) (by (with_reducible repeat (first | refine zL ?_ _ | refine zN ?_ | refine zM ?_ _)); exact BK39.out)) : gb47 ≠ gb39)); clear HO44 BK39 HB; have HO44 := n0_; have BK39 := n1_; have HB := n2_; have BK47 := n3_; have GW47 := n4_; have GE47 := n5_; have NB39_47 := n6_; have NB47_39 := n7_; clear n0_ n1_ n2_ n3_ n4_ n5_ n6_ n7_ hb hbox hg; refine hK.out _ _ ⟨((HB.out.cell (zB w _ hw40_0)).trans hw40_0), ((HB.out.cell (zB w _ hw40_1)).trans hw40_1), ((HB.out.cell (zB w _ hw40_2)).trans hw40_2), ((HB.out.cell (zB w _ hw41_0)).trans hw41_0), ((HB.out.cell (zB w _ hw41_1)).trans hw41_1), ((HB.out.cell (zB w _ hw41_2)).trans hw41_2)⟩ (fun hHeld => ?_); clear hK K; refine norm_ (a' := ?_) ?_ ?_; rotate_left
    ·show Act.put _ (some 3) _ = _
     simp only [Act.put, zC, zD, zE, i64_w]; rfl
    refine one_ (i := 9) (N := some 15) #[true, true, true, true, true, true, true, true, true, true, false, true, false] rfl rfl (one_of HT_.out (by kernel_rfl)) (by decide) (fun K hK => ?_); refine goes_ Try.func65 (by kernel_rfl) rfl #[.slice An0_1 a0.f1.length cn0_1] (by rfl) rfl rfl (by (try simp only [zAA, zAB, zAC]); first | done | rfl | (simp only [zZ, zY]; rfl)) ?_
    with_reducible refine (slices_Clone_string_string.calls _ _ a0.f1 t38 _ ?side1 ?side2 A3.out).mono ?_
    (case side1 => repeat (first | exact (yN HRn0_1.out HB.out) | (with_reducible first | refine zT ?_ _ | refine zU ?_ _ | refine zV ?_))); (case side2 => exact HCn0_1.out); rintro e w8 ⟨v45, rfl, ho0, hb⟩; refine ⟨_, rfl, ?_⟩; have n0_ := zA (yJ (by (with_reducible repeat first | apply zQ | apply zR | apply zS); exact HO44.out) (Kd.R_base ho0) hb); have n1_ := zA (Kd.R_lower (yK ho0 (Kd.R_lt (by (with_reducible repeat first | apply zQ | apply zR | apply zS); exact HO44.out))) (zAE (by repeat (first | (with_reducible first | exact HB.out | apply zH | apply zF | apply zG | refine zI ?_ GE39.out | refine zI ?_ GE47.out) | exact HB.out)))); have n2_ := zA (yE (g := gb39) (o := .cells #[.slice none 0 0, .slice none 0 0, .slice none 0 0, .int .i64 0] 43 (0, 0)) (by (with_reducible repeat (first | refine zL ?_ _ | refine zN ?_ | refine zM ?_ _)); exact BK39.out) hb); have n3_ := zA (yE (g := gb47) (o := .cells #[.slice none 0 0, .slice none 0 0, .slice none 0 0, .int .i64 0] 43 (0, 0)) (by (with_reducible repeat (first | refine zL ?_ _ | refine zN ?_ | refine zM ?_ _)); exact BK47.out) hb); have n4_ := zA (zAD (by repeat (first | (with_reducible first | exact HB.out | apply zH | apply zF | apply zG | refine zI ?_ GE39.out | refine zI ?_ GE47.out) | exact HB.out)) hb); clear HO44 BK39 BK47 HB; have HO44 := n0_; have HO46 := n1_; have BK39 := n2_; have BK47 := n3_; have HB := n4_; clear n0_ n1_ n2_ n3_ n4_; (try clear hb); (try clear ho0); obtain ⟨Ao9, co9, eo9⟩ := Kd.R_slice HO46.out; (first | subst eo9 | (injection eo9 with f1_ f2_ f3_; have f4_ := f1_.symm; have f5_ := f3_.symm; clear f1_ f2_ f3_; subst f4_; subst f5_)); obtain ⟨Ao10, co10, eo10⟩ := Kd.R_slice HO44.out; (first | subst eo10 | (injection eo10 with f1_ f2_ f3_; have f4_ := f1_.symm; have f5_ := f3_.symm; clear f1_ f2_ f3_; subst f4_; subst f5_)); refine hK.out _ _ ⟨((HB.out.cell (zB w _ hw40_0)).trans hw40_0), ((HB.out.cell (zB w _ hw40_1)).trans hw40_1), ((HB.out.cell (zB w _ hw40_2)).trans hw40_2), ((HB.out.cell (zB w _ hw41_0)).trans hw41_0), ((HB.out.cell (zB w _ hw41_1)).trans hw41_1), ((HB.out.cell (zB w _ hw41_2)).trans hw41_2)⟩ (fun hHeld => ?_); clear hK K; refine norm_ (a' := ?_) ?_ ?_; rotate_left
    ·show Act.put _ (some 15) _ = _
     simp only [Act.put, zC, zD, zE, i64_w]; rfl
    refine pure_ (i := 10) (N := some 16) (v := ?_) (a' := ?_) #[true, true, true, true, true, true, true, true, true, true, true, true, false] rfl rfl (any_of HT_.out (by kernel_rfl)) (fun _ _ _ h => h) (Or.inl ⟨by rfl, ?_⟩) ?_ ?_; rotate_left
    ·intro w'
     go_simp
     with_reducible rfl
    rotate_left
    ·simp only [Act.put, zC, zD, zE, i64_w]
     rfl
    exact norm_ (by simp only [putAll, Act.put, zC, zD, zE]) (hCont (.slice Ao10 t37.length co10, .slice Ao9 t38.length co9, gb47) _ ⟨hHeld, (by (with_reducible repeat first | apply zQ | apply zR | apply zS); exact yC HO44.out (fun _ hk => hk.2)), (by (with_reducible repeat first | apply zQ | apply zR | apply zS); exact yC HO46.out (fun _ hk => hk.2)), (by (with_reducible repeat (first | refine zL ?_ _ | refine zN ?_ | refine zM ?_ _)); exact BK39.out), (by (with_reducible repeat (first | refine zL ?_ _ | refine zN ?_ | refine zM ?_ _)); exact BK47.out), GW47.out, GE47.out, NB39_47.out, NB47_39.out, (by repeat (first | (with_reducible first | exact HB.out | apply zH | apply zF | apply zG | refine zI ?_ GE39.out | refine zI ?_ GE47.out) | exact HB.out))⟩)
  ·skip
   refine box_step ?hg (N := 3) ?hd (cs := #[.slice none 0 0, .slice none 0 0, .slice none 0 0, .int .i64 0]) (t := 43) ?hr ?_; (case hd => rfl); (case hg => rfl); (case hr => first | (go_simp; done) | (go_simp; rfl)); intro gb47 hg w6 hbox hb; have n0_ := zA (yE (g := gb39) (o := .cells #[.slice none 0 0, .slice none 0 0, .slice none 0 0, .int .i64 0] 43 (0, 0)) (by (with_reducible repeat (first | refine zL ?_ _ | refine zN ?_ | refine zM ?_ _)); exact BK39.out) hb); have n1_ := zA (zAD (by repeat (first | (with_reducible first | exact HB.out | apply zH | apply zF | apply zG | refine zI ?_ GE39.out) | exact HB.out)) hb); have n2_ := zA (hbox); have n3_ := zA ((by rw [hg]; exact (zAE (by repeat (first | (with_reducible first | exact HB.out | apply zH | apply zF | apply zG | refine zI ?_ GE39.out) | exact HB.out))) : w.heap.size ≤ gb47)); have n4_ := zA ((by rw [hg]; exact (zAE (by repeat (first | (with_reducible first | exact HB.out | apply zH | apply zF | apply zG | refine zI ?_ GE39.out) | exact HB.out))) : w.heap.size ≤ gb47)); have n5_ := zA ((by rw [hg]; exact zK (blk_lt (g := gb39) (o := .cells #[.slice none 0 0, .slice none 0 0, .slice none 0 0, .int .i64 0] 43 (0, 0)) (by (with_reducible repeat (first | refine zL ?_ _ | refine zN ?_ | refine zM ?_ _)); exact BK39.out)) : gb39 ≠ gb47)); have n6_ := zA ((by rw [hg]; exact Nat.ne_of_gt (blk_lt (g := gb39) (o := .cells #[.slice none 0 0, .slice none 0 0, .slice none 0 0, .int .i64 0] 43 (0, 0)) (by (with_reducible repeat (first | refine zL ?_ _ | refine zN ?_ | refine zM ?_ _)); exact BK39.out)) : gb47 ≠ gb39)); clear BK39 HB; have BK39 := n0_; have HB := n1_; have BK47 := n2_; have GW47 := n3_; have GE47 := n4_; have NB39_47 := n5_; have NB47_39 := n6_; clear n0_ n1_ n2_ n3_ n4_ n5_ n6_ hb hbox hg; refine hK.out _ _ ⟨((HB.out.cell (zB w _ hw40_0)).trans hw40_0), ((HB.out.cell (zB w _ hw40_1)).trans hw40_1), ((HB.out.cell (zB w _ hw40_2)).trans hw40_2), ((HB.out.cell (zB w _ hw41_0)).trans hw41_0), ((HB.out.cell (zB w _ hw41_1)).trans hw41_1), ((HB.out.cell (zB w _ hw41_2)).trans hw41_2)⟩ (fun hHeld => ?_); clear hK K; refine norm_ (a' := ?_) ?_ ?_; rotate_left
   ·show Act.put _ (some 3) _ = _
    simp only [Act.put, zC, zD, zE, i64_w]; rfl
   refine one_ (i := 4) (N := some 10) #[true, true, true, true, true, true, true, true, true, false, false, true, false] rfl rfl (one_of HT_.out (by kernel_rfl)) (by decide) (fun K hK => ?_); refine goes_ Try.func65 (by kernel_rfl) rfl #[.slice An0_0 a0.f0.length cn0_0] (by rfl) rfl rfl (by (try simp only [zAA, zAB, zAC]); first | done | rfl | (simp only [zZ, zY]; rfl)) ?_
   with_reducible refine (slices_Clone_string_string.calls _ _ a0.f0 t37 _ ?side1 ?side2 A2.out).mono ?_
   (case side1 => repeat (first | exact (yN HRn0_0.out HB.out) | (with_reducible first | refine zT ?_ _ | refine zU ?_ _ | refine zV ?_))); (case side2 => exact HCn0_0.out); rintro e w7 ⟨v42, rfl, ho0, hb⟩; refine ⟨_, rfl, ?_⟩; have n0_ := zA (Kd.R_lower ho0 (zAE (by repeat (first | (with_reducible first | exact HB.out | apply zH | apply zF | apply zG | refine zI ?_ GE39.out | refine zI ?_ GE47.out) | exact HB.out)))); have n1_ := zA (yE (g := gb39) (o := .cells #[.slice none 0 0, .slice none 0 0, .slice none 0 0, .int .i64 0] 43 (0, 0)) (by (with_reducible repeat (first | refine zL ?_ _ | refine zN ?_ | refine zM ?_ _)); exact BK39.out) hb); have n2_ := zA (yE (g := gb47) (o := .cells #[.slice none 0 0, .slice none 0 0, .slice none 0 0, .int .i64 0] 43 (0, 0)) (by (with_reducible repeat (first | refine zL ?_ _ | refine zN ?_ | refine zM ?_ _)); exact BK47.out) hb); have n3_ := zA (zAD (by repeat (first | (with_reducible first | exact HB.out | apply zH | apply zF | apply zG | refine zI ?_ GE39.out | refine zI ?_ GE47.out) | exact HB.out)) hb); clear BK39 BK47 HB; have HO44 := n0_; have BK39 := n1_; have BK47 := n2_; have HB := n3_; clear n0_ n1_ n2_ n3_; (try clear hb); (try clear ho0); refine hK.out _ _ ⟨((HB.out.cell (zB w _ hw40_0)).trans hw40_0), ((HB.out.cell (zB w _ hw40_1)).trans hw40_1), ((HB.out.cell (zB w _ hw40_2)).trans hw40_2), ((HB.out.cell (zB w _ hw41_0)).trans hw41_0), ((HB.out.cell (zB w _ hw41_1)).trans hw41_1), ((HB.out.cell (zB w _ hw41_2)).trans hw41_2)⟩ (fun hHeld => ?_); clear hK K; refine norm_ (a' := ?_) ?_ ?_; rotate_left
   ·show Act.put _ (some 10) _ = _
    simp only [Act.put, zC, zD, zE, i64_w]; rfl
   refine one_ (i := 9) (N := some 15) #[true, true, true, true, true, true, true, true, true, true, false, true, false] rfl rfl (one_of HT_.out (by kernel_rfl)) (by decide) (fun K hK => ?_); refine goes_ Try.func65 (by kernel_rfl) rfl #[.slice An0_1 a0.f1.length cn0_1] (by rfl) rfl rfl (by (try simp only [zAA, zAB, zAC]); first | done | rfl | (simp only [zZ, zY]; rfl)) ?_
   with_reducible refine (slices_Clone_string_string.calls _ _ a0.f1 t38 _ ?side1 ?side2 A3.out).mono ?_
   (case side1 => repeat (first | exact (yN HRn0_1.out HB.out) | (with_reducible first | refine zT ?_ _ | refine zU ?_ _ | refine zV ?_))); (case side2 => exact HCn0_1.out); rintro e w8 ⟨v45, rfl, ho0, hb⟩; refine ⟨_, rfl, ?_⟩; have n0_ := zA (yJ (by (with_reducible repeat first | apply zQ | apply zR | apply zS); exact HO44.out) (Kd.R_base ho0) hb); have n1_ := zA (Kd.R_lower (yK ho0 (Kd.R_lt (by (with_reducible repeat first | apply zQ | apply zR | apply zS); exact HO44.out))) (zAE (by repeat (first | (with_reducible first | exact HB.out | apply zH | apply zF | apply zG | refine zI ?_ GE39.out | refine zI ?_ GE47.out) | exact HB.out)))); have n2_ := zA (yE (g := gb39) (o := .cells #[.slice none 0 0, .slice none 0 0, .slice none 0 0, .int .i64 0] 43 (0, 0)) (by (with_reducible repeat (first | refine zL ?_ _ | refine zN ?_ | refine zM ?_ _)); exact BK39.out) hb); have n3_ := zA (yE (g := gb47) (o := .cells #[.slice none 0 0, .slice none 0 0, .slice none 0 0, .int .i64 0] 43 (0, 0)) (by (with_reducible repeat (first | refine zL ?_ _ | refine zN ?_ | refine zM ?_ _)); exact BK47.out) hb); have n4_ := zA (zAD (by repeat (first | (with_reducible first | exact HB.out | apply zH | apply zF | apply zG | refine zI ?_ GE39.out | refine zI ?_ GE47.out) | exact HB.out)) hb); clear HO44 BK39 BK47 HB; have HO44 := n0_; have HO46 := n1_; have BK39 := n2_; have BK47 := n3_; have HB := n4_; clear n0_ n1_ n2_ n3_ n4_; (try clear hb); (try clear ho0); obtain ⟨Ao9, co9, eo9⟩ := Kd.R_slice HO46.out; (first | subst eo9 | (injection eo9 with f1_ f2_ f3_; have f4_ := f1_.symm; have f5_ := f3_.symm; clear f1_ f2_ f3_; subst f4_; subst f5_)); obtain ⟨Ao10, co10, eo10⟩ := Kd.R_slice HO44.out; (first | subst eo10 | (injection eo10 with f1_ f2_ f3_; have f4_ := f1_.symm; have f5_ := f3_.symm; clear f1_ f2_ f3_; subst f4_; subst f5_)); refine hK.out _ _ ⟨((HB.out.cell (zB w _ hw40_0)).trans hw40_0), ((HB.out.cell (zB w _ hw40_1)).trans hw40_1), ((HB.out.cell (zB w _ hw40_2)).trans hw40_2), ((HB.out.cell (zB w _ hw41_0)).trans hw41_0), ((HB.out.cell (zB w _ hw41_1)).trans hw41_1), ((HB.out.cell (zB w _ hw41_2)).trans hw41_2)⟩ (fun hHeld => ?_); clear hK K; refine norm_ (a' := ?_) ?_ ?_; rotate_left
   ·show Act.put _ (some 15) _ = _
    simp only [Act.put, zC, zD, zE, i64_w]; rfl
   refine pure_ (i := 10) (N := some 16) (v := ?_) (a' := ?_) #[true, true, true, true, true, true, true, true, true, true, true, true, false] rfl rfl (any_of HT_.out (by kernel_rfl)) (fun _ _ _ h => h) (Or.inl ⟨by rfl, ?_⟩) ?_ ?_; rotate_left
   ·intro w'
    go_simp
    with_reducible rfl
   rotate_left
   ·simp only [Act.put, zC, zD, zE, i64_w]
    rfl
   exact norm_ (by simp only [putAll, Act.put, zC, zD, zE]) (hCont (.slice Ao10 t37.length co10, .slice Ao9 t38.length co9, gb47) _ ⟨hHeld, (by (with_reducible repeat first | apply zQ | apply zR | apply zS); exact yC HO44.out (fun _ hk => hk.2)), (by (with_reducible repeat first | apply zQ | apply zR | apply zS); exact yC HO46.out (fun _ hk => hk.2)), (by (with_reducible repeat (first | refine zL ?_ _ | refine zN ?_ | refine zM ?_ _)); exact BK39.out), (by (with_reducible repeat (first | refine zL ?_ _ | refine zN ?_ | refine zM ?_ _)); exact BK47.out), GW47.out, GE47.out, NB39_47.out, NB47_39.out, (by repeat (first | (with_reducible first | exact HB.out | apply zH | apply zF | apply zG | refine zI ?_ GE39.out | refine zI ?_ GE47.out) | exact HB.out))⟩)
 rintro ⟨v42, v45, gb47⟩ w11 ⟨hS_, h0_, h1_, h2_, h3_, h4_, h5_, h6_, h7_, h8_⟩; have n0_ : Aside0 (Kd.R Kd.string 9 w11 w.heap.size (fun k_ => some k_ ≠ (v45 : Value).ownBlock) v42 t37) := ⟨h0_⟩; have n1_ : Aside0 (Kd.R Kd.string 9 w11 w.heap.size (fun k_ => some k_ ≠ (v42 : Value).ownBlock) v45 t38) := ⟨h1_⟩; have n2_ : Aside0 (w11.heap[gb39]? = some (.cells #[.slice none 0 0, .slice none 0 0, .slice none 0 0, .int .i64 0] 43 (0, 0))) := ⟨h2_⟩; have n3_ : Aside0 (w11.heap[gb47]? = some (.cells #[.slice none 0 0, .slice none 0 0, .slice none 0 0, .int .i64 0] 43 (0, 0))) := ⟨h3_⟩; have n4_ : Aside0 (w.heap.size ≤ gb47) := ⟨h4_⟩; have n5_ : Aside0 (w.heap.size ≤ gb47) := ⟨h5_⟩; have n6_ : Aside0 (gb39 ≠ gb47) := ⟨h6_⟩; have n7_ : Aside0 (gb47 ≠ gb39) := ⟨h7_⟩; have n8_ : Aside0 (Below w.heap.size w w11) := ⟨h8_⟩; clear BK39 HB h0_ h1_ h2_ h3_ h4_ h5_ h6_ h7_ h8_; have HO44 := n0_; have HO46 := n1_; have BK39 := n2_; have BK47 := n3_; have GW47 := n4_; have GE47 := n5_; have NB39_47 := n6_; have NB47_39 := n7_; have HB := n8_; clear n0_ n1_ n2_ n3_ n4_ n5_ n6_ n7_ n8_; have hHeld : w11.cell? ⟨a0.adr, 0, none⟩ = some (.slice An0_0 a0.f0.length cn0_0) ∧ w11.cell? ⟨a0.adr, 1, none⟩ = some (.slice An0_1 a0.f1.length cn0_1) ∧ w11.cell? ⟨a0.adr, 2, none⟩ = some (.slice An0_2 a0.f2.length cn0_2) ∧ w11.cell? ⟨a0.adr, 0, none⟩ = some (.slice An0_0 a0.f0.length cn0_0) ∧ w11.cell? ⟨a0.adr, 1, none⟩ = some (.slice An0_1 a0.f1.length cn0_1) ∧ w11.cell? ⟨a0.adr, 2, none⟩ = some (.slice An0_2 a0.f2.length cn0_2) := hS_; obtain ⟨Ao12, co12, eo12⟩ := Kd.R_slice HO46.out; (first | subst eo12 | (injection eo12 with f1_ f2_ f3_; have f4_ := f1_.symm; have f5_ := f3_.symm; clear f1_ f2_ f3_; subst f4_; subst f5_)); obtain ⟨Ao13, co13, eo13⟩ := Kd.R_slice HO44.out; (first | subst eo13 | (injection eo13 with f1_ f2_ f3_; have f4_ := f1_.symm; have f5_ := f3_.symm; clear f1_ f2_ f3_; subst f4_; subst f5_)); refine norm_ (a' := ?_) ?_ ?_; rotate_left
 ·simp only [putAll, Act.put, zC, zD, zE]
  rfl
 refine one_ (i := 12) (N := none) #[true, true, true, true, true, true, true, true, true, true, true, true, true] rfl rfl (one_of HT_.out (by kernel_rfl)) (by decide) (fun K hK => ?_); have hs14 : w11.cell? ⟨gb47, 0, none⟩ = some (.slice none 0 0) := (zP BK47.out 0).trans rfl; have hfs14 := zO BK47.out 0; have hns14_0 := NB39_47.out; have hms14_0 := NB47_39.out; have hs15 : w11.cell? ⟨gb47, 1, none⟩ = some (.slice none 0 0) := (zP BK47.out 1).trans rfl; have hfs15 := zO BK47.out 1; have hns15_0 := NB39_47.out; have hms15_0 := NB47_39.out; have hs16 : w11.cell? ⟨gb47, 2, none⟩ = some (.slice none 0 0) := (zP BK47.out 2).trans rfl; have hfs16 := zO BK47.out 2; have hns16_0 := NB39_47.out; have hms16_0 := NB47_39.out; have hs17 : w11.cell? ⟨gb47, 3, none⟩ = some (.int .i64 0) := (zP BK47.out 3).trans rfl; have hfs17 := zO BK47.out 3; have hns17_0 := NB39_47.out; have hms17_0 := NB47_39.out; refine skip_ (w1 := ?_) (by rfl) rfl ?_ ?_; rotate_left
 ·go_simp
  rfl
 refine hK.out _ _ ⟨((yF (p := ⟨gb47, _, none⟩) (by first | exact zK (zJ (by have := zB _ _ hw40_0; first | rwa [yA] at this | exact this) GW47.out) | (rw [yA]; exact zK (zJ (by have := zB _ _ hw40_0; first | rwa [yA] at this | exact this) GW47.out)) | (show (Addr.add _ _).block ≠ _; rw [yA]; exact zK (zJ (by have := zB _ _ hw40_0; first | rwa [yA] at this | exact this) GW47.out)) | (dsimp only; exact zK (zJ (by have := zB _ _ hw40_0; first | rwa [yA] at this | exact this) GW47.out))) _).trans (((yF (p := ⟨gb47, _, none⟩) (by first | exact zK (zJ (by have := zB _ _ hw40_0; first | rwa [yA] at this | exact this) GW47.out) | (rw [yA]; exact zK (zJ (by have := zB _ _ hw40_0; first | rwa [yA] at this | exact this) GW47.out)) | (show (Addr.add _ _).block ≠ _; rw [yA]; exact zK (zJ (by have := zB _ _ hw40_0; first | rwa [yA] at this | exact this) GW47.out)) | (dsimp only; exact zK (zJ (by have := zB _ _ hw40_0; first | rwa [yA] at this | exact this) GW47.out))) _).trans (((yF (p := ⟨gb47, _, none⟩) (by first | exact zK (zJ (by have := zB _ _ hw40_0; first | rwa [yA] at this | exact this) GW47.out) | (rw [yA]; exact zK (zJ (by have := zB _ _ hw40_0; first | rwa [yA] at this | exact this) GW47.out)) | (show (Addr.add _ _).block ≠ _; rw [yA]; exact zK (zJ (by have := zB _ _ hw40_0; first | rwa [yA] at this | exact this) GW47.out)) | (dsimp only; exact zK (zJ (by have := zB _ _ hw40_0; first | rwa [yA] at this | exact this) GW47.out))) _).trans (((yF (p := ⟨gb47, _, none⟩) (by first | exact zK (zJ (by have := zB _ _ hw40_0; first | rwa [yA] at this | exact this) GW47.out) | (rw [yA]; exact zK (zJ (by have := zB _ _ hw40_0; first | rwa [yA] at this | exact this) GW47.out)) | (show (Addr.add _ _).block ≠ _; rw [yA]; exact zK (zJ (by have := zB _ _ hw40_0; first | rwa [yA] at this | exact this) GW47.out)) | (dsimp only; exact zK (zJ (by have := zB _ _ hw40_0; first | rwa [yA] at this | exact this) GW47.out))) _).trans (hHeld.1)))))))), ((yF (p := ⟨gb47, _, none⟩) (by first | exact zK (zJ (by have := zB _ _ hw40_1; first | rwa [yA] at this | exact this) GW47.out) | (rw [yA]; exact zK (zJ (by have := zB _ _ hw40_1; first | rwa [yA] at this | exact this) GW47.out)) | (show (Addr.add _ _).block ≠ _; rw [yA]; exact zK (zJ (by have := zB _ _ hw40_1; first | rwa [yA] at this | exact this) GW47.out)) | (dsimp only; exact zK (zJ (by have := zB _ _ hw40_1; first | rwa [yA] at this | exact this) GW47.out))) _).trans (((yF (p := ⟨gb47, _, none⟩) (by first | exact zK (zJ (by have := zB _ _ hw40_1; first | rwa [yA] at this | exact this) GW47.out) | (rw [yA]; exact zK (zJ (by have := zB _ _ hw40_1; first | rwa [yA] at this | exact this) GW47.out)) | (show (Addr.add _ _).block ≠ _; rw [yA]; exact zK (zJ (by have := zB _ _ hw40_1; first | rwa [yA] at this | exact this) GW47.out)) | (dsimp only; exact zK (zJ (by have := zB _ _ hw40_1; first | rwa [yA] at this | exact this) GW47.out))) _).trans (((yF (p := ⟨gb47, _, none⟩) (by first | exact zK (zJ (by have := zB _ _ hw40_1; first | rwa [yA] at this | exact this) GW47.out) | (rw [yA]; exact zK (zJ (by have := zB _ _ hw40_1; first | rwa [yA] at this | exact this) GW47.out)) | (show (Addr.add _ _).block ≠ _; rw [yA]; exact zK (zJ (by have := zB _ _ hw40_1; first | rwa [yA] at this | exact this) GW47.out)) | (dsimp only; exact zK (zJ (by have := zB _ _ hw40_1; first | rwa [yA] at this | exact this) GW47.out))) _).trans (((yF (p := ⟨gb47, _, none⟩) (by first | exact zK (zJ (by have := zB _ _ hw40_1; first | rwa [yA] at this | exact this) GW47.out) | (rw [yA]; exact zK (zJ (by have := zB _ _ hw40_1; first | rwa [yA] at this | exact this) GW47.out)) | (show (Addr.add _ _).block ≠ _; rw [yA]; exact zK (zJ (by have := zB _ _ hw40_1; first | rwa [yA] at this | exact this) GW47.out)) | (dsimp only; exact zK (zJ (by have := zB _ _ hw40_1; first | rwa [yA] at this | exact this) GW47.out))) _).trans (hHeld.2.1)))))))), ((yF (p := ⟨gb47, _, none⟩) (by first | exact zK (zJ (by have := zB _ _ hw40_2; first | rwa [yA] at this | exact this) GW47.out) | (rw [yA]; exact zK (zJ (by have := zB _ _ hw40_2; first | rwa [yA] at this | exact this) GW47.out)) | (show (Addr.add _ _).block ≠ _; rw [yA]; exact zK (zJ (by have := zB _ _ hw40_2; first | rwa [yA] at this | exact this) GW47.out)) | (dsimp only; exact zK (zJ (by have := zB _ _ hw40_2; first | rwa [yA] at this | exact this) GW47.out))) _).trans (((yF (p := ⟨gb47, _, none⟩) (by first | exact zK (zJ (by have := zB _ _ hw40_2; first | rwa [yA] at this | exact this) GW47.out) | (rw [yA]; exact zK (zJ (by have := zB _ _ hw40_2; first | rwa [yA] at this | exact this) GW47.out)) | (show (Addr.add _ _).block ≠ _; rw [yA]; exact zK (zJ (by have := zB _ _ hw40_2; first | rwa [yA] at this | exact this) GW47.out)) | (dsimp only; exact zK (zJ (by have := zB _ _ hw40_2; first | rwa [yA] at this | exact this) GW47.out))) _).trans (((yF (p := ⟨gb47, _, none⟩) (by first | exact zK (zJ (by have := zB _ _ hw40_2; first | rwa [yA] at this | exact this) GW47.out) | (rw [yA]; exact zK (zJ (by have := zB _ _ hw40_2; first | rwa [yA] at this | exact this) GW47.out)) | (show (Addr.add _ _).block ≠ _; rw [yA]; exact zK (zJ (by have := zB _ _ hw40_2; first | rwa [yA] at this | exact this) GW47.out)) | (dsimp only; exact zK (zJ (by have := zB _ _ hw40_2; first | rwa [yA] at this | exact this) GW47.out))) _).trans (((yF (p := ⟨gb47, _, none⟩) (by first | exact zK (zJ (by have := zB _ _ hw40_2; first | rwa [yA] at this | exact this) GW47.out) | (rw [yA]; exact zK (zJ (by have := zB _ _ hw40_2; first | rwa [yA] at this | exact this) GW47.out)) | (show (Addr.add _ _).block ≠ _; rw [yA]; exact zK (zJ (by have := zB _ _ hw40_2; first | rwa [yA] at this | exact this) GW47.out)) | (dsimp only; exact zK (zJ (by have := zB _ _ hw40_2; first | rwa [yA] at this | exact this) GW47.out))) _).trans (hHeld.2.2.1)))))))), ((yF (p := ⟨gb47, _, none⟩) (by first | exact zK (zJ (by have := zB _ _ hw41_0; first | rwa [yA] at this | exact this) GW47.out) | (rw [yA]; exact zK (zJ (by have := zB _ _ hw41_0; first | rwa [yA] at this | exact this) GW47.out)) | (show (Addr.add _ _).block ≠ _; rw [yA]; exact zK (zJ (by have := zB _ _ hw41_0; first | rwa [yA] at this | exact this) GW47.out)) | (dsimp only; exact zK (zJ (by have := zB _ _ hw41_0; first | rwa [yA] at this | exact this) GW47.out))) _).trans (((yF (p := ⟨gb47, _, none⟩) (by first | exact zK (zJ (by have := zB _ _ hw41_0; first | rwa [yA] at this | exact this) GW47.out) | (rw [yA]; exact zK (zJ (by have := zB _ _ hw41_0; first | rwa [yA] at this | exact this) GW47.out)) | (show (Addr.add _ _).block ≠ _; rw [yA]; exact zK (zJ (by have := zB _ _ hw41_0; first | rwa [yA] at this | exact this) GW47.out)) | (dsimp only; exact zK (zJ (by have := zB _ _ hw41_0; first | rwa [yA] at this | exact this) GW47.out))) _).trans (((yF (p := ⟨gb47, _, none⟩) (by first | exact zK (zJ (by have := zB _ _ hw41_0; first | rwa [yA] at this | exact this) GW47.out) | (rw [yA]; exact zK (zJ (by have := zB _ _ hw41_0; first | rwa [yA] at this | exact this) GW47.out)) | (show (Addr.add _ _).block ≠ _; rw [yA]; exact zK (zJ (by have := zB _ _ hw41_0; first | rwa [yA] at this | exact this) GW47.out)) | (dsimp only; exact zK (zJ (by have := zB _ _ hw41_0; first | rwa [yA] at this | exact this) GW47.out))) _).trans (((yF (p := ⟨gb47, _, none⟩) (by first | exact zK (zJ (by have := zB _ _ hw41_0; first | rwa [yA] at this | exact this) GW47.out) | (rw [yA]; exact zK (zJ (by have := zB _ _ hw41_0; first | rwa [yA] at this | exact this) GW47.out)) | (show (Addr.add _ _).block ≠ _; rw [yA]; exact zK (zJ (by have := zB _ _ hw41_0; first | rwa [yA] at this | exact this) GW47.out)) | (dsimp only; exact zK (zJ (by have := zB _ _ hw41_0; first | rwa [yA] at this | exact this) GW47.out))) _).trans (hHeld.2.2.2.1)))))))), ((yF (p := ⟨gb47, _, none⟩) (by first | exact zK (zJ (by have := zB _ _ hw41_1; first | rwa [yA] at this | exact this) GW47.out) | (rw [yA]; exact zK (zJ (by have := zB _ _ hw41_1; first | rwa [yA] at this | exact this) GW47.out)) | (show (Addr.add _ _).block ≠ _; rw [yA]; exact zK (zJ (by have := zB _ _ hw41_1; first | rwa [yA] at this | exact this) GW47.out)) | (dsimp only; exact zK (zJ (by have := zB _ _ hw41_1; first | rwa [yA] at this | exact this) GW47.out))) _).trans (((yF (p := ⟨gb47, _, none⟩) (by first | exact zK (zJ (by have := zB _ _ hw41_1; first | rwa [yA] at this | exact this) GW47.out) | (rw [yA]; exact zK (zJ (by have := zB _ _ hw41_1; first | rwa [yA] at this | exact this) GW47.out)) | (show (Addr.add _ _).block ≠ _; rw [yA]; exact zK (zJ (by have := zB _ _ hw41_1; first | rwa [yA] at this | exact this) GW47.out)) | (dsimp only; exact zK (zJ (by have := zB _ _ hw41_1; first | rwa [yA] at this | exact this) GW47.out))) _).trans (((yF (p := ⟨gb47, _, none⟩) (by first | exact zK (zJ (by have := zB _ _ hw41_1; first | rwa [yA] at this | exact this) GW47.out) | (rw [yA]; exact zK (zJ (by have := zB _ _ hw41_1; first | rwa [yA] at this | exact this) GW47.out)) | (show (Addr.add _ _).block ≠ _; rw [yA]; exact zK (zJ (by have := zB _ _ hw41_1; first | rwa [yA] at this | exact this) GW47.out)) | (dsimp only; exact zK (zJ (by have := zB _ _ hw41_1; first | rwa [yA] at this | exact this) GW47.out))) _).trans (((yF (p := ⟨gb47, _, none⟩) (by first | exact zK (zJ (by have := zB _ _ hw41_1; first | rwa [yA] at this | exact this) GW47.out) | (rw [yA]; exact zK (zJ (by have := zB _ _ hw41_1; first | rwa [yA] at this | exact this) GW47.out)) | (show (Addr.add _ _).block ≠ _; rw [yA]; exact zK (zJ (by have := zB _ _ hw41_1; first | rwa [yA] at this | exact this) GW47.out)) | (dsimp only; exact zK (zJ (by have := zB _ _ hw41_1; first | rwa [yA] at this | exact this) GW47.out))) _).trans (hHeld.2.2.2.2.1)))))))), ((yF (p := ⟨gb47, _, none⟩) (by first | exact zK (zJ (by have := zB _ _ hw41_2; first | rwa [yA] at this | exact this) GW47.out) | (rw [yA]; exact zK (zJ (by have := zB _ _ hw41_2; first | rwa [yA] at this | exact this) GW47.out)) | (show (Addr.add _ _).block ≠ _; rw [yA]; exact zK (zJ (by have := zB _ _ hw41_2; first | rwa [yA] at this | exact this) GW47.out)) | (dsimp only; exact zK (zJ (by have := zB _ _ hw41_2; first | rwa [yA] at this | exact this) GW47.out))) _).trans (((yF (p := ⟨gb47, _, none⟩) (by first | exact zK (zJ (by have := zB _ _ hw41_2; first | rwa [yA] at this | exact this) GW47.out) | (rw [yA]; exact zK (zJ (by have := zB _ _ hw41_2; first | rwa [yA] at this | exact this) GW47.out)) | (show (Addr.add _ _).block ≠ _; rw [yA]; exact zK (zJ (by have := zB _ _ hw41_2; first | rwa [yA] at this | exact this) GW47.out)) | (dsimp only; exact zK (zJ (by have := zB _ _ hw41_2; first | rwa [yA] at this | exact this) GW47.out))) _).trans (((yF (p := ⟨gb47, _, none⟩) (by first | exact zK (zJ (by have := zB _ _ hw41_2; first | rwa [yA] at this | exact this) GW47.out) | (rw [yA]; exact zK (zJ (by have := zB _ _ hw41_2; first | rwa [yA] at this | exact this) GW47.out)) | (show (Addr.add _ _).block ≠ _; rw [yA]; exact zK (zJ (by have := zB _ _ hw41_2; first | rwa [yA] at this | exact this) GW47.out)) | (dsimp only; exact zK (zJ (by have := zB _ _ hw41_2; first | rwa [yA] at this | exact this) GW47.out))) _).trans (((yF (p := ⟨gb47, _, none⟩) (by first | exact zK (zJ (by have := zB _ _ hw41_2; first | rwa [yA] at this | exact this) GW47.out) | (rw [yA]; exact zK (zJ (by have := zB _ _ hw41_2; first | rwa [yA] at this | exact this) GW47.out)) | (show (Addr.add _ _).block ≠ _; rw [yA]; exact zK (zJ (by have := zB _ _ hw41_2; first | rwa [yA] at this | exact this) GW47.out)) | (dsimp only; exact zK (zJ (by have := zB _ _ hw41_2; first | rwa [yA] at this | exact this) GW47.out))) _).trans (hHeld.2.2.2.2.2))))))))⟩ (fun hHeld => ?_)
 clear hK K; refine done_ (done_of HT_.out (by kernel_rfl)) ?_; have hx48_0 := HXn0_0.out; have hx48_1 := HXn0_1.out; have hx48_2 := HXn0_2.out; have hn380_0 : a0.adr ≠ gb47 := zK (zJ (zB _ _ hx48_0) GW47.out); have hn380_1 : a0.adr ≠ gb47 := zK (zJ (zB _ _ hx48_0) GW47.out); have hn380_2 : a0.adr ≠ gb47 := zK (zJ (zB _ _ hx48_0) GW47.out); have hn380_3 : a0.adr ≠ gb47 := zK (zJ (zB _ _ hx48_0) GW47.out); replace hx48_0 := (HB.out.cell (zB w _ hx48_0)).trans hx48_0; replace hx48_1 := (HB.out.cell (zB w _ hx48_1)).trans hx48_1; replace hx48_2 := (HB.out.cell (zB w _ hx48_2)).trans hx48_2; replace hx48_0 := (yF (p := ⟨gb47, 0, none⟩) hn380_0 (.slice Ao13 t37.length co13)).trans hx48_0; replace hx48_1 := (yF (p := ⟨gb47, 0, none⟩) hn380_0 (.slice Ao13 t37.length co13)).trans hx48_1; replace hx48_2 := (yF (p := ⟨gb47, 0, none⟩) hn380_0 (.slice Ao13 t37.length co13)).trans hx48_2; replace hx48_0 := (yF (p := ⟨gb47, 1, none⟩) hn380_1 (.slice Ao12 t38.length co12)).trans hx48_0; replace hx48_1 := (yF (p := ⟨gb47, 1, none⟩) hn380_1 (.slice Ao12 t38.length co12)).trans hx48_1; replace hx48_2 := (yF (p := ⟨gb47, 1, none⟩) hn380_1 (.slice Ao12 t38.length co12)).trans hx48_2; replace hx48_0 := (yF (p := ⟨gb47, 2, none⟩) hn380_2 (.slice none 0 0)).trans hx48_0; replace hx48_1 := (yF (p := ⟨gb47, 2, none⟩) hn380_2 (.slice none 0 0)).trans hx48_1; replace hx48_2 := (yF (p := ⟨gb47, 2, none⟩) hn380_2 (.slice none 0 0)).trans hx48_2; replace hx48_0 := (yF (p := ⟨gb47, 3, none⟩) hn380_3 (.int .i64 0)).trans hx48_0; replace hx48_1 := (yF (p := ⟨gb47, 3, none⟩) hn380_3 (.int .i64 0)).trans hx48_1; replace hx48_2 := (yF (p := ⟨gb47, 3, none⟩) hn380_3 (.int .i64 0)).trans hx48_2; clear hn380_0 hn380_1 hn380_2 hn380_3
 try go_wp2
 go_loopg [22] k (fun kq v22 w' => ∃ (x22_1 : Int) (x49_1 : List ByteArray) (u380002 : Value), v22 = .int .i64 x22_1 ∧ Aside0 (impl_node_shown.l0 kq a0.f2 (a0.f2.length : Int) x22_1 t37 t38 x49_1 0 = some (r1, r2, r3, r4)) ∧ Aside0 (kq ≤ k) ∧ Aside0 (Kd.R Kd.string 9 w' w.heap.size (fun k_ => some k_ ≠ ((.slice Ao12 t38.length co12) : Value).ownBlock ∧ some k_ ≠ (u380002 : Value).ownBlock) (.slice Ao13 t37.length co13) t37) ∧ Aside0 (Kd.R Kd.string 9 w' w.heap.size (fun k_ => some k_ ≠ ((.slice Ao13 t37.length co13) : Value).ownBlock ∧ some k_ ≠ (u380002 : Value).ownBlock) (.slice Ao12 t38.length co12) t38) ∧ Aside0 (Kd.R Kd.string 9 w' w.heap.size (fun k_ => some k_ ≠ ((.slice Ao13 t37.length co13) : Value).ownBlock ∧ some k_ ≠ ((.slice Ao12 t38.length co12) : Value).ownBlock) u380002 x49_1) ∧ Aside0 (w'.heap[gb39]? = some (.cells #[(.slice none 0 0), (.slice none 0 0), (.slice none 0 0), .int .i64 0] 43 (0, 0))) ∧ Aside0 (w'.heap[gb47]? = some (.cells #[(.slice Ao13 t37.length co13), (.slice Ao12 t38.length co12), u380002, .int .i64 0] 43 (0, 0))) ∧ Aside0 (Below w.heap.size w w'))
 case atStart => exact ⟨(0), (([] : List ByteArray)), (.slice none 0 0), (by first | rfl | (simp; done) | (simp [*]; done) | (simp [bne]; done)), H', ⟨Nat.le_refl _⟩, ⟨by (with_reducible repeat first | apply zQ | apply zR | apply zS); exact yC (Kd.R_far (p := ⟨gb47, 3, none⟩) (Kd.R_far (p := ⟨gb47, 2, none⟩) (Kd.R_far (p := ⟨gb47, 1, none⟩) (Kd.R_far (p := ⟨gb47, 0, none⟩) (Kd.R_types HO44.out BK47.out (by decide)) (fun _ hk => hk.2) (.slice Ao13 t37.length co13)) (fun _ hk => hk.2) (.slice Ao12 t38.length co12)) (fun _ hk => hk.2) (.slice none 0 0)) (fun _ hk => hk.2) (.int .i64 0)) (fun _ hk => ⟨hk.1, (by simp [Value.ownBlock])⟩)⟩, ⟨by (with_reducible repeat first | apply zQ | apply zR | apply zS); exact yC (Kd.R_far (p := ⟨gb47, 3, none⟩) (Kd.R_far (p := ⟨gb47, 2, none⟩) (Kd.R_far (p := ⟨gb47, 1, none⟩) (Kd.R_far (p := ⟨gb47, 0, none⟩) (Kd.R_types HO46.out BK47.out (by decide)) (fun _ hk => hk.2) (.slice Ao13 t37.length co13)) (fun _ hk => hk.2) (.slice Ao12 t38.length co12)) (fun _ hk => hk.2) (.slice none 0 0)) (fun _ hk => hk.2) (.int .i64 0)) (fun _ hk => ⟨hk.1, (by simp [Value.ownBlock])⟩)⟩, ⟨by first | exact Kd.R_nil _ _ _ _ _ | exact Kd.N_nil _ _ _ _ _ | exact Kd.V_nil _ _ _ _ _ | exact Kd.Q_nil _ _ _ _ _ | exact Kd.S_nil _ _ _ _ _⟩, ⟨by (with_reducible repeat (first | refine zL ?_ _ | refine zN ?_ | refine zM ?_ _)); refine blk_far ?_ NB39_47.out _; (with_reducible repeat (first | refine zL ?_ _ | refine zN ?_ | refine zM ?_ _)); refine blk_far ?_ NB39_47.out _; (with_reducible repeat (first | refine zL ?_ _ | refine zN ?_ | refine zM ?_ _)); refine blk_far ?_ NB39_47.out _; (with_reducible repeat (first | refine zL ?_ _ | refine zN ?_ | refine zM ?_ _)); refine blk_far ?_ NB39_47.out _; (with_reducible repeat (first | refine zL ?_ _ | refine zN ?_ | refine zM ?_ _)); exact BK39.out⟩, ⟨by (with_reducible repeat (first | refine zL ?_ _ | refine zN ?_ | refine zM ?_ _)); refine blk_put (cs := #[.slice Ao13 t37.length co13, .slice Ao12 t38.length co12, .slice none 0 0, .int .i64 0]) ?_ 3 _ rfl; (with_reducible repeat (first | refine zL ?_ _ | refine zN ?_ | refine zM ?_ _)); refine blk_put (cs := #[.slice Ao13 t37.length co13, .slice Ao12 t38.length co12, .slice none 0 0, .int .i64 0]) ?_ 2 _ rfl; (with_reducible repeat (first | refine zL ?_ _ | refine zN ?_ | refine zM ?_ _)); refine blk_put (cs := #[.slice Ao13 t37.length co13, .slice none 0 0, .slice none 0 0, .int .i64 0]) ?_ 1 _ rfl; (with_reducible repeat (first | refine zL ?_ _ | refine zN ?_ | refine zM ?_ _)); refine blk_put (cs := #[.slice none 0 0, .slice none 0 0, .slice none 0 0, .int .i64 0]) ?_ 0 _ rfl; (with_reducible repeat (first | refine zL ?_ _ | refine zN ?_ | refine zM ?_ _)); exact BK47.out⟩, ⟨by repeat (first | (with_reducible first | exact HB.out | apply zH | apply zF | apply zG | refine zI ?_ GE39.out | refine zI ?_ GE47.out) | exact HB.out)⟩⟩
 case round =>
  clear H'
  try clear c2
  try clear p2
  try clear hx3
  try clear c6
  try clear hx40_0
  try clear hx40_1
  try clear hx40_2
  try clear hx41_0
  try clear hx41_1
  try clear hx41_2
  try clear hx48_0
  try clear hx48_1
  try clear hx48_2
  obtain ⟨x22_1, x49_1, u380002, rfl, HA, HK1, HO_380000, HO_380001, HO_380002, BK39, BK47, HB⟩ := hrel
  cases gk with
  | zero => exact absurd HA.out (by simp [impl_node_shown.l0])
  | succ k1 =>
   have H := HA.out; clear HA; simp only [impl_node_shown.l0] at H
   by_cases c18 : x22_1 < (a0.f2.length : Int)
   ·rw [if_pos c18] at H
    have c18b0 : decide (x22_1 < (a0.f2.length : Int)) = true := zX c18; clear c18
    by_cases c19 : 0 ≤ x22_1
    ·rw [if_pos c19] at H
     have c19b0 : decide (0 ≤ x22_1) = true := zX c19; clear c19
     by_cases c20 : x22_1 < (a0.f2.length : Int)
     ·rw [if_pos c20] at H
      have c20b0 : decide (x22_1 < (a0.f2.length : Int)) = true := zX c20; clear c20; replace H := zAF H; obtain ⟨⟨t50, t51, t52, t53⟩, A54, H⟩ := H; replace H : ((impl_Shown_digest.f k1 t50 t51 t52 t53).bind fun t55 => (if x49_1.length < 8796093022208 then (impl_node_shown.l0 k1 a0.f2 (a0.f2.length : Int) (wrap64 (x22_1 + 1)) t37 t38 (x49_1 ++ [t55]) 0) else (none))) = some (r1, r2, r3, r4) := H; have A21 := zA A54; clear A54; replace H := zAF H; obtain ⟨t55, A56, H⟩ := H; replace H : (if x49_1.length < 8796093022208 then (impl_node_shown.l0 k1 a0.f2 (a0.f2.length : Int) (wrap64 (x22_1 + 1)) t37 t38 (x49_1 ++ [t55]) 0) else (none)) = some (r1, r2, r3, r4) := H; have A22 := zA A56; clear A56
      by_cases c23 : x49_1.length < 8796093022208
      ·rw [if_pos c23] at H
       have LMc23 := zA c23; clear c23; obtain ⟨y57, hy57⟩ : ∃ y_ : List ByteArray, y_ = (x49_1 ++ [t55]) := ⟨_, rfl⟩; replace H : (impl_node_shown.l0 k1 a0.f2 (a0.f2.length : Int) (wrap64 (x22_1 + 1)) t37 t38 y57 0) = some (r1, r2, r3, r4) := by first | (rw [hy57]; with_reducible exact H) | (have H2_ := (Option.bind_some _ _).symm.trans H; rw [hy57]; with_reducible exact H2_) | (have H2_ := (Option.bind_some _ _).symm.trans H; with_reducible exact H2_) | with_reducible exact H | (rw [hy57]; exact H) | exact H
       have Ny57 := zA hy57; clear hy57; have H' := zA H; clear H; have p58 : 0 ≤ (x22_1 : Int) := zW (by first | (with_reducible assumption) | assumption); have q58 : x22_1 < (a0.f2.length : Int) := zW (by first | (with_reducible assumption) | assumption); obtain ⟨ad58, e58, hx58_0⟩ := at_N74 HRn0_2.out x22_1 p58 q58; have HN58 := zA (nd_el74 HRn0_2.out x22_1 p58 q58); obtain ⟨An381_0, cn381_0, An381_1, cn381_1, An381_2, cn381_2, hsn381_0, hsn381_1, hsn381_2, hln381_0, hin381_0, hln381_1, hin381_1, hln381_2, hin381_2⟩ := at_P74 HN58.out; have HXn381_0 := zA hsn381_0; have HRn381_0 := zA hin381_0; have HCn381_0 := zA hln381_0; have HXn381_1 := zA hsn381_1; have HRn381_1 := zA hin381_1; have HCn381_1 := zA hln381_1; have HXn381_2 := zA hsn381_2; have HRn381_2 := zA hin381_2; have HCn381_2 := zA hln381_2; clear hsn381_0 hin381_0 hln381_0 hsn381_1 hin381_1 hln381_1 hsn381_2 hin381_2 hln381_2
       cases e58
       replace hx58_0 := (HB.out.cell (zB w _ hx58_0)).trans hx58_0; replace p58 := eq_true p58; replace q58 := eq_true q58
       try go_wp2
       have n0_ := zA (zS HO_380000.out); have n1_ := zA (zS HO_380001.out); have n2_ := zA (zS HO_380002.out); have n3_ := zA (zN BK39.out); have n4_ := zA (zN BK47.out); have n5_ := zA (zG HB.out); clear HO_380000 HO_380001 HO_380002 BK39 BK47 HB; have HO_380000 := n0_; have HO_380001 := n1_; have HO_380002 := n2_; have BK39 := n3_; have BK47 := n4_; have HB := n5_; clear n0_ n1_ n2_ n3_ n4_ n5_; refine start_ (n := 9) (S := fun w' => w'.cell? ⟨gb47, 0, none⟩ = some (.slice Ao13 t37.length co13) ∧ w'.cell? ⟨gb47, 1, none⟩ = some (.slice Ao12 t38.length co12) ∧ w'.cell? ⟨gb47, 2, none⟩ = some (u380002) ∧ w'.cell? ⟨gb47, 3, none⟩ = some (.int .i64 0)) (ds := [8]) #[false, false, false, false, false, false, false, false, false] (by kernel_rfl) rfl rfl ⟨(zP BK47.out 0).trans rfl, (zP BK47.out 1).trans rfl, (zP BK47.out 2).trans rfl, (zP BK47.out 3).trans rfl⟩ (fun hHeld => ?_); refine with_tabW impl_node_shown.tab5 impl_node_shown.bits5 (fun HT_ HW_ => ?_); generalize wr.drew = w24 at HO_380000 HO_380001 HO_380002 BK39 BK47 HB hHeld ⊢; refine pure_ (i := 0) (N := some 26) (v := ?_) (a' := ?_) #[true, false, false, false, false, false, false, false, false] rfl rfl (any_of HT_.out (by kernel_rfl)) (fun _ _ _ h => h) (Or.inl ⟨by rfl, ?_⟩) ?_ ?_; rotate_left
       ·intro w'
        go_simp
        with_reducible rfl
       rotate_left
       ·simp only [Act.put, zC, zD, zE, i64_w]
        rfl
       refine pure_ (i := 2) (N := some 28) (v := ?_) (a' := ?_) #[true, false, true, false, false, false, false, false, false] rfl rfl (any_of HT_.out (by kernel_rfl)) (fun _ _ _ h => h) (Or.inl ⟨by rfl, ?_⟩) ?_ ?_; rotate_left
       ·intro w'
        go_simp
        with_reducible rfl
       rotate_left
       ·simp only [Act.put, zC, zD, zE, i64_w]
        rfl
       refine take_ (i := 1) (N := some 27) (v := ?_) (a' := ?_) #[true, true, true, false, false, false, false, false, false] rfl rfl (take_ofW HT_.out HW_.out (by kernel_rfl)) (fun _ _ _ h => h) (Or.inl ⟨by rfl, ?_⟩) hHeld ?_ ?_; rotate_left
       ·rintro w' ⟨s0, s1, s2, s3⟩
        go_simp
        with_reducible rfl
       rotate_left
       ·simp only [Act.put, zC, zD, zE, i64_w]
        rfl
       refine one_ (i := 3) (N := some 29) #[true, true, true, true, false, false, false, false, false] rfl rfl (one_of HT_.out (by kernel_rfl)) (by decide) (fun K hK => ?_); refine goes_ Try.func28 (by kernel_rfl) rfl #[.pointer (some ⟨(rd_N74 a0.f2 x22_1).adr, 0, none⟩)] (by rfl) rfl rfl (by (try simp only [zAA, zAB, zAC]); first | done | rfl) ?_
       with_reducible refine (ih k1 (by have := HK1.out; omega) (rd_N74 a0.f2 x22_1) t50 t51 t52 t53 _ ?side1 A21.out).mono ?_
       (case side1 => repeat (first | exact (k74p.K_below HB.out HN58.out) | (with_reducible refine k74p_alloc ?_ _) | (with_reducible refine k74p_drewN ?_ _) | (with_reducible refine k74p_drew ?_))); rintro e w25 ⟨v59, v61, v62, rfl, ho0, ho1, ho2, hb⟩; refine ⟨_, rfl, ?_⟩; have n0_ := zA (yC (Kd.R_told (Kd.R_told (Kd.R_told (Kd.R_old (by (with_reducible repeat first | apply zQ | apply zR | apply zS); exact HO_380000.out) hb) (Kd.R_base ho0)) (Kd.R_base ho1)) (Kd.R_base ho2)) (fun _ h_ => h_.1)); have n1_ := zA (yC (Kd.R_told (Kd.R_told (Kd.R_told (Kd.R_old (by (with_reducible repeat first | apply zQ | apply zR | apply zS); exact HO_380001.out) hb) (Kd.R_base ho0)) (Kd.R_base ho1)) (Kd.R_base ho2)) (fun _ h_ => h_.1)); have n2_ := zA (yC (Kd.R_told (Kd.R_told (Kd.R_told (Kd.R_old (by (with_reducible repeat first | apply zQ | apply zR | apply zS); exact HO_380002.out) hb) (Kd.R_base ho0)) (Kd.R_base ho1)) (Kd.R_base ho2)) (fun _ h_ => h_.1)); have n3_ := zA (Kd.R_lower (yK (yK (yK ho0 (Kd.R_lt (by (with_reducible repeat first | apply zQ | apply zR | apply zS); exact HO_380000.out))) (Kd.R_lt (by (with_reducible repeat first | apply zQ | apply zR | apply zS); exact HO_380001.out))) (Kd.R_lt (by (with_reducible repeat first | apply zQ | apply zR | apply zS); exact HO_380002.out))) (zAE (by repeat (first | (with_reducible first | exact HB.out | apply zH | apply zF | apply zG | refine zI ?_ GE39.out | refine zI ?_ GE47.out) | exact HB.out)))); have n4_ := zA (Kd.R_lower (yK (yK (yK ho1 (Kd.R_lt (by (with_reducible repeat first | apply zQ | apply zR | apply zS); exact HO_380000.out))) (Kd.R_lt (by (with_reducible repeat first | apply zQ | apply zR | apply zS); exact HO_380001.out))) (Kd.R_lt (by (with_reducible repeat first | apply zQ | apply zR | apply zS); exact HO_380002.out))) (zAE (by repeat (first | (with_reducible first | exact HB.out | apply zH | apply zF | apply zG | refine zI ?_ GE39.out | refine zI ?_ GE47.out) | exact HB.out)))); have n5_ := zA (Kd.R_lower (yK (yK (yK ho2 (Kd.R_lt (by (with_reducible repeat first | apply zQ | apply zR | apply zS); exact HO_380000.out))) (Kd.R_lt (by (with_reducible repeat first | apply zQ | apply zR | apply zS); exact HO_380001.out))) (Kd.R_lt (by (with_reducible repeat first | apply zQ | apply zR | apply zS); exact HO_380002.out))) (zAE (by repeat (first | (with_reducible first | exact HB.out | apply zH | apply zF | apply zG | refine zI ?_ GE39.out | refine zI ?_ GE47.out) | exact HB.out)))); have n6_ := zA (yE (g := gb39) (o := .cells #[.slice none 0 0, .slice none 0 0, .slice none 0 0, .int .i64 0] 43 (0, 0)) (by (with_reducible repeat (first | refine zL ?_ _ | refine zN ?_ | refine zM ?_ _)); exact BK39.out) hb); have n7_ := zA (yE (g := gb47) (o := .cells #[.slice Ao13 t37.length co13, .slice Ao12 t38.length co12, u380002, .int .i64 0] 43 (0, 0)) (by (with_reducible repeat (first | refine zL ?_ _ | refine zN ?_ | refine zM ?_ _)); exact BK47.out) hb); have n8_ := zA (zAD (by repeat (first | (with_reducible first | exact HB.out | apply zH | apply zF | apply zG | refine zI ?_ GE39.out | refine zI ?_ GE47.out) | exact HB.out)) hb); clear HO_380000 HO_380001 HO_380002 BK39 BK47 HB; have HO_380000 := n0_; have HO_380001 := n1_; have HO_380002 := n2_; have HO63 := n3_; have HO65 := n4_; have HO66 := n5_; have BK39 := n6_; have BK47 := n7_; have HB := n8_; clear n0_ n1_ n2_ n3_ n4_ n5_ n6_ n7_ n8_; (try clear hb); (try clear ho0); (try clear ho1); (try clear ho2); obtain ⟨Ao26, co26, eo26⟩ := Kd.R_slice HO63.out; (first | subst eo26 | (injection eo26 with f1_ f2_ f3_; have f4_ := f1_.symm; have f5_ := f3_.symm; clear f1_ f2_ f3_; subst f4_; subst f5_)); obtain ⟨Ao27, co27, eo27⟩ := Kd.R_slice HO65.out; (first | subst eo27 | (injection eo27 with f1_ f2_ f3_; have f4_ := f1_.symm; have f5_ := f3_.symm; clear f1_ f2_ f3_; subst f4_; subst f5_)); obtain ⟨Ao28, co28, eo28⟩ := Kd.R_slice HO66.out; (first | subst eo28 | (injection eo28 with f1_ f2_ f3_; have f4_ := f1_.symm; have f5_ := f3_.symm; clear f1_ f2_ f3_; subst f4_; subst f5_)); refine hK.out _ _ ⟨(zP BK47.out 0).trans rfl, (zP BK47.out 1).trans rfl, (zP BK47.out 2).trans rfl, (zP BK47.out 3).trans rfl⟩ (fun hHeld => ?_); clear hK K; refine norm_ (a' := ?_) ?_ ?_; rotate_left
       ·show Act.put _ (some 29) _ = _
        simp only [Act.put, zC, zD, zE, i64_w]; rfl
       refine one_ (i := 4) (N := some 30) #[true, true, true, true, true, false, false, false, false] rfl rfl (one_of HT_.out (by kernel_rfl)) (by decide) (fun K hK => ?_); refine goes_ Try.func29 (by kernel_rfl) rfl #[.agg #[.slice Ao26 t50.length co26, .slice Ao27 t51.length co27, .slice Ao28 t52.length co28, .int .i64 t53]] (by rfl) rfl rfl (by (try simp only [zAA, zAB, zAC]); first | done | rfl | (simp only [zZ, zY]; rfl)) ?_
       with_reducible refine (impl_Shown_digest.calls k1 _ _ t50 _ _ t51 _ _ t52 t53 t55 _ ?side1 ?side2 ?side3 ?side4 ?side5 ?side6 A22.out).mono ?_
       (case side1 => repeat (first | exact (yD HO63.out).2.2 | (with_reducible first | refine zT ?_ _ | refine zU ?_ _ | refine zV ?_))); (case side2 => exact (yD HO63.out).2.1); (case side3 => repeat (first | exact (yD HO65.out).2.2 | (with_reducible first | refine zT ?_ _ | refine zU ?_ _ | refine zV ?_))); (case side4 => exact (yD HO65.out).2.1); (case side5 => repeat (first | exact (yD HO66.out).2.2 | (with_reducible first | refine zT ?_ _ | refine zU ?_ _ | refine zV ?_))); (case side6 => exact (yD HO66.out).2.1); rintro e w29 ⟨rfl, hb⟩; refine ⟨_, rfl, ?_⟩; have n0_ := zA (Kd.R_below (by (with_reducible repeat first | apply zQ | apply zR | apply zS); exact HO_380000.out) hb); have n1_ := zA (Kd.R_below (by (with_reducible repeat first | apply zQ | apply zR | apply zS); exact HO_380001.out) hb); have n2_ := zA (Kd.R_below (by (with_reducible repeat first | apply zQ | apply zR | apply zS); exact HO_380002.out) hb); have n3_ := zA (Kd.R_below (by (with_reducible repeat first | apply zQ | apply zR | apply zS); exact HO63.out) hb); have n4_ := zA (Kd.R_below (by (with_reducible repeat first | apply zQ | apply zR | apply zS); exact HO65.out) hb); have n5_ := zA (Kd.R_below (by (with_reducible repeat first | apply zQ | apply zR | apply zS); exact HO66.out) hb); have n6_ := zA (yE (g := gb39) (o := .cells #[.slice none 0 0, .slice none 0 0, .slice none 0 0, .int .i64 0] 43 (0, 0)) (by (with_reducible repeat (first | refine zL ?_ _ | refine zN ?_ | refine zM ?_ _)); exact BK39.out) hb); have n7_ := zA (yE (g := gb47) (o := .cells #[.slice Ao13 t37.length co13, .slice Ao12 t38.length co12, u380002, .int .i64 0] 43 (0, 0)) (by (with_reducible repeat (first | refine zL ?_ _ | refine zN ?_ | refine zM ?_ _)); exact BK47.out) hb); have n8_ := zA (zAD (by repeat (first | (with_reducible first | exact HB.out | apply zH | apply zF | apply zG | refine zI ?_ GE39.out | refine zI ?_ GE47.out) | exact HB.out)) hb); clear HO_380000 HO_380001 HO_380002 HO63 HO65 HO66 BK39 BK47 HB; have HO_380000 := n0_; have HO_380001 := n1_; have HO_380002 := n2_; have HO63 := n3_; have HO65 := n4_; have HO66 := n5_; have BK39 := n6_; have BK47 := n7_; have HB := n8_; clear n0_ n1_ n2_ n3_ n4_ n5_ n6_ n7_ n8_; (try clear hb); refine hK.out _ _ ⟨(zP BK47.out 0).trans rfl, (zP BK47.out 1).trans rfl, (zP BK47.out 2).trans rfl, (zP BK47.out 3).trans rfl⟩ (fun hHeld => ?_); clear hK K; refine norm_ (a' := ?_) ?_ ?_; rotate_left
       ·show Act.put _ (some 30) _ = _
        simp only [Act.put, zC, zD, zE, i64_w]; rfl
       refine one_ (i := 5) (N := some 31) #[true, true, true, true, true, true, false, false, false] rfl rfl (one_of HT_.out (by kernel_rfl)) (by decide) (fun K hK => ?_); refine value_ (w1 := ?_) (v := ?_) (by rfl) rfl ?_ ?_; rotate_left 2
       ·go_simp
        constructor
        ·rfl
        ·rfl
       refine hK.out _ _ ⟨(zP (zM BK47.out _) 0).trans rfl, (zP (zM BK47.out _) 1).trans rfl, (zP (zM BK47.out _) 2).trans rfl, (zP (zM BK47.out _) 3).trans rfl⟩ (fun hHeld => ?_); clear hK K; refine norm_ (a' := ?_) ?_ ?_; rotate_left
       ·show Act.put _ (some 31) _ = _
        simp only [Act.put, zC, zD, zE, i64_w]; rfl
       refine one_ (i := 6) (N := some 32) #[true, true, true, true, true, true, true, false, false] rfl rfl (one_of HT_.out (by kernel_rfl)) (by decide) (fun K hK => ?_); refine Kd.R_append_step Kd.string (w0 := w) w.heap.size (by rfl) (.tmp 27) (.tmp 31) 41 9 (.string ⟨#[]⟩) 16 rfl Try.underlying41 info9 rfl (by decide) (by omega) u380002 x49_1 t55 [.string t55] (fun k_ => some k_ ≠ (.slice Ao13 t37.length co13 : Value).ownBlock ∧ some k_ ≠ (.slice Ao12 t38.length co12 : Value).ownBlock ∧ some k_ ≠ (.slice Ao26 t50.length co26 : Value).ownBlock ∧ some k_ ≠ (.slice Ao27 t51.length co27 : Value).ownBlock ∧ some k_ ≠ (.slice Ao28 t52.length co28 : Value).ownBlock) (fun _ => False) rfl rfl ?aP (fun _ hk => hk.elim) ?aF ?aO ?aB ?aS ?aL ?_; (case aP => exact rfl); (case aB => exact (by repeat (first | (with_reducible first | exact HB.out | apply zH | apply zF | apply zG | refine zI ?_ GE39.out | refine zI ?_ GE47.out) | exact HB.out))); (case aF => exact (fun k_ hk => ⟨Kd.fresh' (Kd.R_lt (by (with_reducible repeat first | apply zQ | apply zR | apply zS); exact HO_380000.out)) k_ hk, Kd.fresh' (Kd.R_lt (by (with_reducible repeat first | apply zQ | apply zR | apply zS); exact HO_380001.out)) k_ hk, Kd.fresh' (Kd.R_lt (by (with_reducible repeat first | apply zQ | apply zR | apply zS); exact HO63.out)) k_ hk, Kd.fresh' (Kd.R_lt (by (with_reducible repeat first | apply zQ | apply zR | apply zS); exact HO65.out)) k_ hk, Kd.fresh' (Kd.R_lt (by (with_reducible repeat first | apply zQ | apply zR | apply zS); exact HO66.out)) k_ hk⟩)); (case aO => exact (by (with_reducible repeat first | apply zQ | apply zR | apply zS); exact yC HO_380002.out (fun _ hk => ⟨hk.1.1.1.1, ⟨hk.1.1.1.2, ⟨hk.1.1.2, ⟨hk.1.2, hk.2⟩⟩⟩⟩))); (case aS => exact (zAE (by repeat (first | (with_reducible first | exact HB.out | apply zH | apply zF | apply zG | refine zI ?_ GE39.out | refine zI ?_ GE47.out) | exact HB.out)))); (case aL => have := LMc23.out; omega); intro v67 w30 ho hb hg hat; rw [← Ny57.out] at ho; have n0_ := zA (Kd.R_after (ok := (fun k_ => some k_ ≠ (.slice Ao12 t38.length co12 : Value).ownBlock ∧ some k_ ≠ (.slice Ao26 t50.length co26 : Value).ownBlock ∧ some k_ ≠ (.slice Ao27 t51.length co27 : Value).ownBlock ∧ some k_ ≠ (.slice Ao28 t52.length co28 : Value).ownBlock)) (by (with_reducible repeat first | apply zQ | apply zR | apply zS); exact yC HO_380000.out (fun _ hk => ⟨⟨hk.1.1.1.1, ⟨hk.1.1.2, ⟨hk.1.2, hk.2⟩⟩⟩, hk.1.1.1.2⟩)) hg hat); have n1_ := zA (Kd.R_after (ok := (fun k_ => some k_ ≠ (.slice Ao13 t37.length co13 : Value).ownBlock ∧ some k_ ≠ (.slice Ao26 t50.length co26 : Value).ownBlock ∧ some k_ ≠ (.slice Ao27 t51.length co27 : Value).ownBlock ∧ some k_ ≠ (.slice Ao28 t52.length co28 : Value).ownBlock)) (by (with_reducible repeat first | apply zQ | apply zR | apply zS); exact yC HO_380001.out (fun _ hk => ⟨⟨hk.1.1.1.1, ⟨hk.1.1.2, ⟨hk.1.2, hk.2⟩⟩⟩, hk.1.1.1.2⟩)) hg hat); have n2_ := zA (blk_grown (g := gb39) (o := .cells #[.slice none 0 0, .slice none 0 0, .slice none 0 0, .int .i64 0] 43 (0, 0)) (by (with_reducible repeat (first | refine zL ?_ _ | refine zN ?_ | refine zM ?_ _)); exact BK39.out) hg (Kd.R_ne HO_380002.out BK39.out (by decide))); have n3_ := zA (blk_grown (g := gb47) (o := .cells #[.slice Ao13 t37.length co13, .slice Ao12 t38.length co12, u380002, .int .i64 0] 43 (0, 0)) (by (with_reducible repeat (first | refine zL ?_ _ | refine zN ?_ | refine zM ?_ _)); exact BK47.out) hg (Kd.R_ne HO_380002.out BK47.out (by decide))); have n4_ := zA (Kd.R_after (ok := (fun k_ => some k_ ≠ (.slice Ao13 t37.length co13 : Value).ownBlock ∧ some k_ ≠ (.slice Ao12 t38.length co12 : Value).ownBlock ∧ some k_ ≠ (.slice Ao27 t51.length co27 : Value).ownBlock ∧ some k_ ≠ (.slice Ao28 t52.length co28 : Value).ownBlock)) (by (with_reducible repeat first | apply zQ | apply zR | apply zS); exact yC HO63.out (fun _ hk => ⟨⟨hk.1.1.2, ⟨hk.1.2, ⟨hk.1.1.1.1, hk.1.1.1.2⟩⟩⟩, hk.2⟩)) hg hat); have n5_ := zA (Kd.R_after (ok := (fun k_ => some k_ ≠ (.slice Ao13 t37.length co13 : Value).ownBlock ∧ some k_ ≠ (.slice Ao12 t38.length co12 : Value).ownBlock ∧ some k_ ≠ (.slice Ao26 t50.length co26 : Value).ownBlock ∧ some k_ ≠ (.slice Ao28 t52.length co28 : Value).ownBlock)) (by (with_reducible repeat first | apply zQ | apply zR | apply zS); exact yC HO65.out (fun _ hk => ⟨⟨hk.1.1.2, ⟨hk.1.2, ⟨hk.1.1.1.1, hk.1.1.1.2⟩⟩⟩, hk.2⟩)) hg hat); have n6_ := zA (Kd.R_after (ok := (fun k_ => some k_ ≠ (.slice Ao13 t37.length co13 : Value).ownBlock ∧ some k_ ≠ (.slice Ao12 t38.length co12 : Value).ownBlock ∧ some k_ ≠ (.slice Ao26 t50.length co26 : Value).ownBlock ∧ some k_ ≠ (.slice Ao27 t51.length co27 : Value).ownBlock)) (by (with_reducible repeat first | apply zQ | apply zR | apply zS); exact yC HO66.out (fun _ hk => ⟨⟨hk.1.1.2, ⟨hk.1.2, ⟨hk.1.1.1.1, hk.1.1.1.2⟩⟩⟩, hk.2⟩)) hg hat); have n7_ := zA (hb); have n8_ := zA (ho); clear HO_380000 HO_380001 BK39 BK47 HO63 HO65 HO66 HB HO_380002; have HO_380000 := n0_; have HO_380001 := n1_; have BK39 := n2_; have BK47 := n3_; have HO63 := n4_; have HO65 := n5_; have HO66 := n6_; have HB := n7_; have HO68 := n8_; clear n0_ n1_ n2_ n3_ n4_ n5_ n6_ n7_ n8_ ho hb hg hat; obtain ⟨Ao31, co31, eo31⟩ := Kd.R_slice HO68.out; (first | subst eo31 | (injection eo31 with f1_ f2_ f3_; have f4_ := f1_.symm; have f5_ := f3_.symm; clear f1_ f2_ f3_; subst f4_; subst f5_)); refine hK.out _ _ ⟨(zP BK47.out 0).trans rfl, (zP BK47.out 1).trans rfl, (zP BK47.out 2).trans rfl, (zP BK47.out 3).trans rfl⟩ (fun hHeld => ?_)
       clear hK K; refine norm_ (a' := ?_) ?_ ?_; rotate_left
       ·show Act.put _ (some 32) _ = _
        simp only [Act.put, zC, zD, zE, i64_w]; rfl
       refine pure_ (i := 7) (N := some 33) (v := ?_) (a' := ?_) #[true, true, true, true, true, true, true, true, false] rfl rfl (any_of HT_.out (by kernel_rfl)) (fun _ _ _ h => h) (Or.inl ⟨by rfl, ?_⟩) ?_ ?_; rotate_left
       ·intro w'
        go_simp
        with_reducible rfl
       rotate_left
       ·simp only [Act.put, zC, zD, zE, i64_w]
        rfl
       refine last_ (i := 8) (N := none) #[true, true, true, true, true, true, true, true, true] rfl rfl (one_of HT_.out (by kernel_rfl)) (by decide) (fun K hK => ?_); have hs32 : w30.cell? ⟨gb47, 2, none⟩ = some (u380002) := (zP BK47.out 2).trans rfl; have hfs32 := zO BK47.out 2; have hns32_0 := NB39_47.out; have hms32_0 := NB47_39.out; refine skip_ (w1 := ?_) (by rfl) rfl ?_ ?_; rotate_left
       ·go_simp
        rfl
       refine hK.out _ _ ?_; clear hK K; refine done_ (done_of HT_.out (by kernel_rfl)) ?_
       try go_wp2
       go_roundg k1
       case measure => have := HK1.out; omega
       case rel => exact ⟨(wrap64 (x22_1 + 1)), (y57), (.slice Ao31 y57.length co31), (by first | rfl | (simp; done) | (simp [*]; done) | (simp [bne]; done)), H', ⟨by have := HK1.out; omega⟩, ⟨by (with_reducible repeat first | apply zQ | apply zR | apply zS); exact yC (Kd.R_far (p := ⟨gb47, 2, none⟩) (Kd.R_types HO_380000.out BK47.out (by decide)) (fun _ hk => hk.2) (.slice Ao31 y57.length co31)) (fun _ hk => ⟨hk.1.1.1, hk.1.2⟩)⟩, ⟨by (with_reducible repeat first | apply zQ | apply zR | apply zS); exact yC (Kd.R_far (p := ⟨gb47, 2, none⟩) (Kd.R_types HO_380001.out BK47.out (by decide)) (fun _ hk => hk.2) (.slice Ao31 y57.length co31)) (fun _ hk => ⟨hk.1.1.1, hk.1.2⟩)⟩, ⟨by (with_reducible repeat first | apply zQ | apply zR | apply zS); exact yC (Kd.R_far (p := ⟨gb47, 2, none⟩) (Kd.R_types HO68.out BK47.out (by decide)) (fun _ hk => hk.2) (.slice Ao31 y57.length co31)) (fun _ hk => ⟨hk.1.1, hk.1.2.1⟩)⟩, ⟨by (with_reducible repeat (first | refine zL ?_ _ | refine zN ?_ | refine zM ?_ _)); refine blk_far ?_ NB39_47.out _; (with_reducible repeat (first | refine zL ?_ _ | refine zN ?_ | refine zM ?_ _)); exact BK39.out⟩, ⟨by (with_reducible repeat (first | refine zL ?_ _ | refine zN ?_ | refine zM ?_ _)); refine blk_put (cs := #[.slice Ao13 t37.length co13, .slice Ao12 t38.length co12, u380002, .int .i64 0]) ?_ 2 _ rfl; (with_reducible repeat (first | refine zL ?_ _ | refine zN ?_ | refine zM ?_ _)); exact BK47.out⟩, ⟨by repeat (first | (with_reducible first | exact HB.out | apply zH | apply zF | apply zG | refine zI ?_ GE39.out | refine zI ?_ GE47.out) | exact HB.out)⟩⟩
      ·rw [if_neg c23] at H
       exact absurd H (by simp)
     ·rw [if_neg c20] at H
      exact absurd H (by simp)
    ·rw [if_neg c19] at H
     exact absurd H (by simp)
   ·rw [if_neg c18] at H
    have c18b0 : decide (x22_1 < (a0.f2.length : Int)) = false := decide_eq_false c18; clear c18; simp only [Option.some.injEq, Prod.mk.injEq] at H; obtain ⟨rfl, rfl, rfl, rfl⟩ := H; have hnb33 := NB47_39.out; have hnc33 := NB39_47.out; have hcz34_0 := yL BK47.out 0 (.slice Ao13 t37.length co13) rfl; have hcz34_1 := yL BK47.out 1 (.slice Ao12 t38.length co12) rfl; have hcz34_2 := yL BK47.out 2 (u380002) rfl; have hcz34_3 := yL BK47.out 3 (.int .i64 0) rfl; have hfz34_0 := zO BK47.out 0; have hfz34_1 := zO BK47.out 1; have hfz34_2 := zO BK47.out 2; have hfz34_3 := zO BK47.out 3; have hcz35_0 := yL BK39.out 0 (.slice none 0 0) rfl; have hcz35_1 := yL BK39.out 1 (.slice none 0 0) rfl; have hcz35_2 := yL BK39.out 2 (.slice none 0 0) rfl; have hcz35_3 := yL BK39.out 3 (.int .i64 0) rfl; have hfz35_0 := zO BK39.out 0; have hfz35_1 := zO BK39.out 1; have hfz35_2 := zO BK39.out 2; have hfz35_3 := zO BK39.out 3; obtain ⟨Ao36, co36, eo36⟩ := Kd.R_slice HO_380002.out; subst eo36; go_wp2; refine bodyPost_ret (results_cell_row rfl _ _ gb39 43 #[.slice Ao13 t37.length co13, .slice Ao12 t38.length co12, .slice Ao36 x49_1.length co36, .int .i64 0] (0, 0) _ rfl (by (with_reducible repeat (first | refine zL ?_ _ | refine zN ?_ | refine zM ?_ _)); refine blk_put (cs := #[.slice Ao13 t37.length co13, .slice Ao12 t38.length co12, .slice Ao36 x49_1.length co36, .int .i64 0]) ?_ 3 _ rfl; (with_reducible repeat (first | refine zL ?_ _ | refine zN ?_ | refine zM ?_ _)); refine blk_put (cs := #[.slice Ao13 t37.length co13, .slice Ao12 t38.length co12, .slice none 0 0, .int .i64 0]) ?_ 2 _ rfl; (with_reducible repeat (first | refine zL ?_ _ | refine zN ?_ | refine zM ?_ _)); refine blk_put (cs := #[.slice Ao13 t37.length co13, .slice none 0 0, .slice none 0 0, .int .i64 0]) ?_ 1 _ rfl; (with_reducible repeat (first | refine zL ?_ _ | refine zN ?_ | refine zM ?_ _)); refine blk_put (cs := #[.slice none 0 0, .slice none 0 0, .slice none 0 0, .int .i64 0]) ?_ 0 _ rfl; (with_reducible repeat (first | refine zL ?_ _ | refine zN ?_ | refine zM ?_ _)); exact BK39.out) Try.underlying43 rfl (by kernel_rfl)) rfl ?_; exact ⟨_, _, _, by first | rfl | (simp <;> rfl) | (simp [*] <;> rfl), by (with_reducible repeat first | apply zQ | apply zR | apply zS); exact yC (Kd.R_far (p := ⟨gb39, 3, none⟩) (Kd.R_far (p := ⟨gb39, 2, none⟩) (Kd.R_far (p := ⟨gb39, 1, none⟩) (Kd.R_far (p := ⟨gb39, 0, none⟩) (Kd.R_types HO_380000.out BK39.out (by decide)) (fun _ hk => hk.2) (.slice Ao13 t37.length co13)) (fun _ hk => hk.2) (.slice Ao12 t38.length co12)) (fun _ hk => hk.2) (.slice Ao36 x49_1.length co36)) (fun _ hk => hk.2) (.int .i64 0)) (fun _ hk => ⟨hk.1.1, hk.1.2⟩), by (with_reducible repeat first | apply zQ | apply zR | apply zS); exact yC (Kd.R_far (p := ⟨gb39, 3, none⟩) (Kd.R_far (p := ⟨gb39, 2, none⟩) (Kd.R_far (p := ⟨gb39, 1, none⟩) (Kd.R_far (p := ⟨gb39, 0, none⟩) (Kd.R_types HO_380001.out BK39.out (by decide)) (fun _ hk => hk.2) (.slice Ao13 t37.length co13)) (fun _ hk => hk.2) (.slice Ao12 t38.length co12)) (fun _ hk => hk.2) (.slice Ao36 x49_1.length co36)) (fun _ hk => hk.2) (.int .i64 0)) (fun _ hk => ⟨hk.1.1, hk.1.2⟩), by (with_reducible repeat first | apply zQ | apply zR | apply zS); exact yC (Kd.R_far (p := ⟨gb39, 3, none⟩) (Kd.R_far (p := ⟨gb39, 2, none⟩) (Kd.R_far (p := ⟨gb39, 1, none⟩) (Kd.R_far (p := ⟨gb39, 0, none⟩) (Kd.R_types HO_380002.out BK39.out (by decide)) (fun _ hk => hk.2) (.slice Ao13 t37.length co13)) (fun _ hk => hk.2) (.slice Ao12 t38.length co12)) (fun _ hk => hk.2) (.slice Ao36 x49_1.length co36)) (fun _ hk => hk.2) (.int .i64 0)) (fun _ hk => ⟨hk.1.1, hk.1.2⟩), by repeat (first | (with_reducible first | exact HB.out | apply zH | apply zF | apply zG | refine zI ?_ GE39.out | refine zI ?_ GE47.out) | exact HB.out)⟩
def laws_eqIntS.l0 : Nat → List Int → List Int → Int → Option (Bool)
 | 0, _, _, _ => none
 | k + 1, x0, x1, x5 => if x5 < (x0.length : Int) then (if 0 ≤ x5 then (if x5 < (x1.length : Int) then (if (rd x0 x5) = (rd x1 x5) then (laws_eqIntS.l0 k x0 x1 (wrap64 (x5 + 1))) else (some false)) else (none)) else (none)) else (some true)
def laws_eqIntS.f (k : Nat) (l0 : List Int) (l1 : List Int) : Option (Bool) := if (l0.length : Int) = (l1.length : Int) then (laws_eqIntS.l0 k l0 l1 0) else (some false)
theorem laws_eqIntS.calls (k : Nat) (A0 : Option Addr) (c0 : Nat) (l0 : List Int) (A1 : Option Addr) (c1 : Nat) (l1 : List Int) (r : Bool) (w : World) (hr0 : Kd.C (Kd.int .i64) w A0 l0.length l0) (hc0 : l0.length ≤ c0) (hr1 : Kd.C (Kd.int .i64) w A1 l1.length l1) (hc1 : l1.length ≤ c1) (h : laws_eqIntS.f k l0 l1 = some r) (hr_ : Aside0 (r = true)) :
  Calls Try.prog 45 #[.slice A0 l0.length c0, .slice A1 l1.length c1] w fun e w' => e = .returned (.bool r) ∧ Drawn0 w w' := by
 have HR0 := zA hr0; have HC0 := zA hc0; clear hr0 hc0; have HR1 := zA hr1; have HC1 := zA hc1; clear hr1 hc1; have H : (if (l0.length : Int) = (l1.length : Int) then (laws_eqIntS.l0 k l0 l1 0) else (some false)) = some r := h; clear h
 by_cases c3 : (l0.length : Int) = (l1.length : Int)
 ·rw [if_pos c3] at H
  have c3b0 : ((l0.length : Int) == (l1.length : Int)) = true := beq_iff_eq.mpr c3; have c3b1 : ((l0.length : Int) != (l1.length : Int)) = false := bne_eq_false_iff_eq.mpr c3; have c3b2 : (l0.length == l1.length) = true := by first | simpa using c3 | (simp at c3 ⊢; omega)
  clear c3; have H' := zA H; clear H; go_enter Try.func45, Try.ntmps45; go_wp2
  repeat (go_quiet (fail); try go_wp2)
  go_loopg [5] k (fun kq v5 w' => ∃ (x5_1 : Int), v5 = .int .i64 x5_1 ∧ Aside0 (laws_eqIntS.l0 kq l0 l1 x5_1 = some r) ∧ Aside0 (kq ≤ k) ∧ Drawn0 w w')
  case atStart => exact ⟨(0), (by first | rfl | (simp; done) | (simp [*]; done) | (simp [bne]; done)), H', ⟨Nat.le_refl _⟩, by repeat (first | exact Drawn0.refl _ | apply Drawn0.step)⟩
  case round =>
   clear H'
   try clear c1
   try clear p2
   try clear c3
   try clear c3b0
   try clear c3b1
   try clear c3b2
   obtain ⟨x5_1, rfl, HA, HK1, ⟨m1, rfl⟩⟩ := hrel
   cases gk with
   | zero => exact absurd HA.out (by simp [laws_eqIntS.l0])
   | succ k1 =>
    have H := HA.out; clear HA; simp only [laws_eqIntS.l0] at H
    by_cases c4 : x5_1 < (l0.length : Int)
    ·rw [if_pos c4] at H
     have c4b0 : decide (x5_1 < (l0.length : Int)) = true := zX c4; clear c4
     by_cases c5 : 0 ≤ x5_1
     ·rw [if_pos c5] at H
      have c5b0 : decide (0 ≤ x5_1) = true := zX c5; clear c5
      by_cases c6 : x5_1 < (l1.length : Int)
      ·rw [if_pos c6] at H
       have c6b0 : decide (x5_1 < (l1.length : Int)) = true := zX c6; clear c6
       by_cases c7 : (rd l0 x5_1) = (rd l1 x5_1)
       ·rw [if_pos c7] at H
        have c7b0 : ((rd l0 x5_1) == (rd l1 x5_1)) = true := beq_iff_eq.mpr c7; have c7b1 : ((rd l0 x5_1) != (rd l1 x5_1)) = false := bne_eq_false_iff_eq.mpr c7; clear c7; have H' := zA H; clear H; have p10 : 0 ≤ (x5_1 : Int) := zW (by first | (with_reducible assumption) | assumption); have q10 : x5_1 < (l0.length : Int) := zW (by first | (with_reducible assumption) | assumption); obtain ⟨ad10, e10, hx10_0⟩ := Kd.at_int HR0.out x5_1 p10 q10
        cases e10
        replace p10 := eq_true p10; replace q10 := eq_true q10; have p11 : 0 ≤ (x5_1 : Int) := zW (by first | (with_reducible assumption) | assumption); have q11 : x5_1 < (l1.length : Int) := zW (by first | (with_reducible assumption) | assumption); obtain ⟨ad11, e11, hx11_0⟩ := Kd.at_int HR1.out x5_1 p11 q11
        cases e11
        replace p11 := eq_true p11; replace q11 := eq_true q11; go_wp2
        repeat (go_quiet (fail); try go_wp2)
        go_roundg k1
        case measure => have := HK1.out; omega
        case rel => exact ⟨(wrap64 (x5_1 + 1)), (by first | rfl | (simp; done) | (simp [*]; done) | (simp [bne]; done)), H', ⟨by have := HK1.out; omega⟩, by repeat (first | exact Drawn0.refl _ | apply Drawn0.step)⟩
       ·rw [if_neg c7] at H
        have c7b0 : ((rd l0 x5_1) == (rd l1 x5_1)) = false := beq_eq_false_iff_ne.mpr c7; have c7b1 : ((rd l0 x5_1) != (rd l1 x5_1)) = true := bne_iff_ne.mpr c7; exact absurd ((yM H).trans hr_.out) (by decide)
      ·rw [if_neg c6] at H
       exact absurd H (by simp)
     ·rw [if_neg c5] at H
      exact absurd H (by simp)
    ·rw [if_neg c4] at H
     have c4b0 : decide (x5_1 < (l0.length : Int)) = false := decide_eq_false c4; clear c4; obtain rfl := yM H; go_wp2
     repeat (go_quiet (fail); try go_wp2)
     go_ret; exact ⟨by first | rfl | (simp; done) | (simp [*]; done) | (simp [bne]; done), by repeat (first | exact Drawn0.refl _ | apply Drawn0.step)⟩
 ·rw [if_neg c3] at H
  have c3b0 : ((l0.length : Int) == (l1.length : Int)) = false := beq_eq_false_iff_ne.mpr c3; have c3b1 : ((l0.length : Int) != (l1.length : Int)) = true := bne_iff_ne.mpr c3; have c3b2 : (l0.length == l1.length) = false := by first | simpa using c3 | (simp at c3 ⊢; omega)
  exact absurd ((yM H).trans hr_.out) (by decide)
def laws_eqStringS.l0 : Nat → List ByteArray → List ByteArray → Int → Option (Bool)
 | 0, _, _, _ => none
 | k + 1, x0, x1, x5 => if x5 < (x0.length : Int) then (if 0 ≤ x5 then (if x5 < (x1.length : Int) then (if (rdOf ByteArray.empty x0 x5).toList = (rdOf ByteArray.empty x1 x5).toList then (laws_eqStringS.l0 k x0 x1 (wrap64 (x5 + 1))) else (some false)) else (none)) else (none)) else (some true)
def laws_eqStringS.f (k : Nat) (l0 : List ByteArray) (l1 : List ByteArray) : Option (Bool) := if (l0.length : Int) = (l1.length : Int) then (laws_eqStringS.l0 k l0 l1 0) else (some false)
theorem laws_eqStringS.calls (k : Nat) (A0 : Option Addr) (c0 : Nat) (l0 : List ByteArray) (A1 : Option Addr) (c1 : Nat) (l1 : List ByteArray) (r : Bool) (w : World) (hr0 : Kd.C Kd.string w A0 l0.length l0) (hc0 : l0.length ≤ c0) (hr1 : Kd.C Kd.string w A1 l1.length l1) (hc1 : l1.length ≤ c1) (h : laws_eqStringS.f k l0 l1 = some r) (hr_ : Aside0 (r = true)) :
  Calls Try.prog 73 #[.slice A0 l0.length c0, .slice A1 l1.length c1] w fun e w' => e = .returned (.bool r) ∧ Drawn0 w w' := by
 have HR0 := zA hr0; have HC0 := zA hc0; clear hr0 hc0; have HR1 := zA hr1; have HC1 := zA hc1; clear hr1 hc1; have H : (if (l0.length : Int) = (l1.length : Int) then (laws_eqStringS.l0 k l0 l1 0) else (some false)) = some r := h; clear h
 by_cases c3 : (l0.length : Int) = (l1.length : Int)
 ·rw [if_pos c3] at H
  have c3b0 : ((l0.length : Int) == (l1.length : Int)) = true := beq_iff_eq.mpr c3; have c3b1 : ((l0.length : Int) != (l1.length : Int)) = false := bne_eq_false_iff_eq.mpr c3; have c3b2 : (l0.length == l1.length) = true := by first | simpa using c3 | (simp at c3 ⊢; omega)
  clear c3; have H' := zA H; clear H; go_enter Try.func73, Try.ntmps73; go_wp2
  repeat (go_quiet (fail); try go_wp2)
  go_loopg [5] k (fun kq v5 w' => ∃ (x5_1 : Int), v5 = .int .i64 x5_1 ∧ Aside0 (laws_eqStringS.l0 kq l0 l1 x5_1 = some r) ∧ Aside0 (kq ≤ k) ∧ Drawn0 w w')
  case atStart => exact ⟨(0), (by first | rfl | (simp; done) | (simp [*]; done) | (simp [bne]; done)), H', ⟨Nat.le_refl _⟩, by repeat (first | exact Drawn0.refl _ | apply Drawn0.step)⟩
  case round =>
   clear H'
   try clear c1
   try clear p2
   try clear c3
   try clear c3b0
   try clear c3b1
   try clear c3b2
   obtain ⟨x5_1, rfl, HA, HK1, ⟨m1, rfl⟩⟩ := hrel
   cases gk with
   | zero => exact absurd HA.out (by simp [laws_eqStringS.l0])
   | succ k1 =>
    have H := HA.out; clear HA; simp only [laws_eqStringS.l0] at H
    by_cases c4 : x5_1 < (l0.length : Int)
    ·rw [if_pos c4] at H
     have c4b0 : decide (x5_1 < (l0.length : Int)) = true := zX c4; clear c4
     by_cases c5 : 0 ≤ x5_1
     ·rw [if_pos c5] at H
      have c5b0 : decide (0 ≤ x5_1) = true := zX c5; clear c5
      by_cases c6 : x5_1 < (l1.length : Int)
      ·rw [if_pos c6] at H
       have c6b0 : decide (x5_1 < (l1.length : Int)) = true := zX c6; clear c6
       by_cases c7 : (rdOf ByteArray.empty l0 x5_1).toList = (rdOf ByteArray.empty l1 x5_1).toList
       ·rw [if_pos c7] at H
        have c7b0 : ((rdOf ByteArray.empty l0 x5_1).toList == (rdOf ByteArray.empty l1 x5_1).toList) = true := beq_iff_eq.mpr c7; have c7b1 : ((rdOf ByteArray.empty l0 x5_1).toList != (rdOf ByteArray.empty l1 x5_1).toList) = false := bne_eq_false_iff_eq.mpr c7; clear c7; have H' := zA H; clear H; have p10 : 0 ≤ (x5_1 : Int) := zW (by first | (with_reducible assumption) | assumption); have q10 : x5_1 < (l0.length : Int) := zW (by first | (with_reducible assumption) | assumption); obtain ⟨ad10, e10, hx10_0⟩ := Kd.at_string HR0.out x5_1 p10 q10
        cases e10
        replace p10 := eq_true p10; replace q10 := eq_true q10; have p11 : 0 ≤ (x5_1 : Int) := zW (by first | (with_reducible assumption) | assumption); have q11 : x5_1 < (l1.length : Int) := zW (by first | (with_reducible assumption) | assumption); obtain ⟨ad11, e11, hx11_0⟩ := Kd.at_string HR1.out x5_1 p11 q11
        cases e11
        replace p11 := eq_true p11; replace q11 := eq_true q11; go_wp2
        repeat (go_quiet (fail); try go_wp2)
        go_roundg k1
        case measure => have := HK1.out; omega
        case rel => exact ⟨(wrap64 (x5_1 + 1)), (by first | rfl | (simp; done) | (simp [*]; done) | (simp [bne]; done)), H', ⟨by have := HK1.out; omega⟩, by repeat (first | exact Drawn0.refl _ | apply Drawn0.step)⟩
       ·rw [if_neg c7] at H
        have c7b0 : ((rdOf ByteArray.empty l0 x5_1).toList == (rdOf ByteArray.empty l1 x5_1).toList) = false := beq_eq_false_iff_ne.mpr c7; have c7b1 : ((rdOf ByteArray.empty l0 x5_1).toList != (rdOf ByteArray.empty l1 x5_1).toList) = true := bne_iff_ne.mpr c7; exact absurd ((yM H).trans hr_.out) (by decide)
      ·rw [if_neg c6] at H
       exact absurd H (by simp)
     ·rw [if_neg c5] at H
      exact absurd H (by simp)
    ·rw [if_neg c4] at H
     have c4b0 : decide (x5_1 < (l0.length : Int)) = false := decide_eq_false c4; clear c4; obtain rfl := yM H; go_wp2
     repeat (go_quiet (fail); try go_wp2)
     go_ret; exact ⟨by first | rfl | (simp; done) | (simp [*]; done) | (simp [bne]; done), by repeat (first | exact Drawn0.refl _ | apply Drawn0.step)⟩
 ·rw [if_neg c3] at H
  have c3b0 : ((l0.length : Int) == (l1.length : Int)) = false := beq_eq_false_iff_ne.mpr c3; have c3b1 : ((l0.length : Int) != (l1.length : Int)) = true := bne_iff_ne.mpr c3; have c3b2 : (l0.length == l1.length) = false := by first | simpa using c3 | (simp at c3 ⊢; omega)
  exact absurd ((yM H).trans hr_.out) (by decide)
def laws_eqPage.f (k : Nat) (l0_0 : List ByteArray) (l0_1 : List ByteArray) (l0_2 : List Int) (l1_0 : List ByteArray) (l1_1 : List ByteArray) (l1_2 : List Int) : Option (Bool) := (laws_eqStringS.f k l0_0 l1_0).bind fun t10 => (if t10 = true then ((laws_eqStringS.f k l0_1 l1_1).bind fun t11 => (if t11 = true then ((laws_eqIntS.f k l0_2 l1_2).bind fun t12 => (if t12 = true then (some true) else (some false))) else (some false))) else (some false))
theorem laws_eqPage.calls (k : Nat) (A0_0 : Option Addr) (c0_0 : Nat) (l0_0 : List ByteArray) (A0_1 : Option Addr) (c0_1 : Nat) (l0_1 : List ByteArray) (A0_2 : Option Addr) (c0_2 : Nat) (l0_2 : List Int) (A1_0 : Option Addr) (c1_0 : Nat) (l1_0 : List ByteArray) (A1_1 : Option Addr) (c1_1 : Nat) (l1_1 : List ByteArray) (A1_2 : Option Addr) (c1_2 : Nat) (l1_2 : List Int) (r : Bool) (w : World) (hr0_0 : Kd.C Kd.string w A0_0 l0_0.length l0_0) (hc0_0 : l0_0.length ≤ c0_0) (hr0_1 : Kd.C Kd.string w A0_1 l0_1.length l0_1) (hc0_1 : l0_1.length ≤ c0_1) (hr0_2 : Kd.C (Kd.int .i64) w A0_2 l0_2.length l0_2) (hc0_2 : l0_2.length ≤ c0_2) (hr1_0 : Kd.C Kd.string w A1_0 l1_0.length l1_0) (hc1_0 : l1_0.length ≤ c1_0) (hr1_1 : Kd.C Kd.string w A1_1 l1_1.length l1_1) (hc1_1 : l1_1.length ≤ c1_1) (hr1_2 : Kd.C (Kd.int .i64) w A1_2 l1_2.length l1_2) (hc1_2 : l1_2.length ≤ c1_2) (h : laws_eqPage.f k l0_0 l0_1 l0_2 l1_0 l1_1 l1_2 = some r) (hr_ : Aside0 (r = true)) :
  Calls Try.prog 68 #[.agg #[.slice A0_0 l0_0.length c0_0, .slice A0_1 l0_1.length c0_1, .slice A0_2 l0_2.length c0_2], .agg #[.slice A1_0 l1_0.length c1_0, .slice A1_1 l1_1.length c1_1, .slice A1_2 l1_2.length c1_2]] w fun e w' => e = .returned (.bool r) ∧ Below w.heap.size w w' := by
 have hu97 := Try.underlying97; have HR0_0 := zA hr0_0; have HC0_0 := zA hc0_0; clear hr0_0 hc0_0; have HR0_1 := zA hr0_1; have HC0_1 := zA hc0_1; clear hr0_1 hc0_1; have HR0_2 := zA hr0_2; have HC0_2 := zA hc0_2; clear hr0_2 hc0_2; have HR1_0 := zA hr1_0; have HC1_0 := zA hc1_0; clear hr1_0 hc1_0; have HR1_1 := zA hr1_1; have HC1_1 := zA hc1_1; clear hr1_1 hc1_1; have HR1_2 := zA hr1_2; have HC1_2 := zA hc1_2; clear hr1_2 hc1_2; have HB := zA (Below.refl w.heap.size w); have H : ((laws_eqStringS.f k l0_0 l1_0).bind fun t14 => (if t14 = true then ((laws_eqStringS.f k l0_1 l1_1).bind fun t15 => (if t15 = true then ((laws_eqIntS.f k l0_2 l1_2).bind fun t16 => (if t16 = true then (some true) else (some false))) else (some false))) else (some false))) = some r := h; clear h; replace H := zAF H; obtain ⟨t14, A30, H⟩ := H; replace H : (if t14 = true then ((laws_eqStringS.f k l0_1 l1_1).bind fun t15 => (if t15 = true then ((laws_eqIntS.f k l0_2 l1_2).bind fun t16 => (if t16 = true then (some true) else (some false))) else (some false))) else (some false)) = some r := H; have A3 := zA A30; clear A30
 by_cases c4 : t14 = true
 ·subst c4
  have H1 : ((laws_eqStringS.f k l0_1 l1_1).bind fun t15 => (if t15 = true then ((laws_eqIntS.f k l0_2 l1_2).bind fun t16 => (if t16 = true then (some true) else (some false))) else (some false))) = some r := by rw [if_pos rfl] at H; exact H
  clear H; have H := H1; clear H1; replace H := zAF H; obtain ⟨t15, A50, H⟩ := H; replace H : (if t15 = true then ((laws_eqIntS.f k l0_2 l1_2).bind fun t16 => (if t16 = true then (some true) else (some false))) else (some false)) = some r := H; have A5 := zA A50; clear A50
  by_cases c6 : t15 = true
  ·subst c6
   have H1 : ((laws_eqIntS.f k l0_2 l1_2).bind fun t16 => (if t16 = true then (some true) else (some false))) = some r := by rw [if_pos rfl] at H; exact H
   clear H; have H := H1; clear H1; replace H := zAF H; obtain ⟨t16, A70, H⟩ := H; replace H : (if t16 = true then (some true) else (some false)) = some r := H; have A7 := zA A70; clear A70
   by_cases c8 : t16 = true
   ·subst c8
    have H1 : (some true) = some r := by rw [if_pos rfl] at H; exact H
    clear H; have H := H1; clear H1; obtain rfl := yM H; go_enter Try.func68, Try.ntmps68; go_wp2_with (first | ((with_reducible refine gate_dst (N := 2) rfl ?_); refine box_event ?hg (N := 2) ?hd (cs := #[.slice A0_0 l0_0.length c0_0, .slice A0_1 l0_1.length c0_1, .slice A0_2 l0_2.length c0_2]) (t := 97) ?hr ?_; (case hd => rfl); (case hg => rfl); (case hr => first | (go_simp; done) | (go_simp; rfl)); intro gb17 hg w9 hbox hb; have n0_ := zA (zAD (by (with_reducible repeat first | exact HB.out | apply zH | apply zF | apply zG) <;> exact HB.out) hb); have n1_ := zA (hbox); have n2_ := zA ((by rw [hg]; exact (zAE (by (with_reducible repeat first | exact HB.out | apply zH | apply zF | apply zG) <;> exact HB.out)) : w.heap.size ≤ gb17)); have n3_ := zA ((by rw [hg]; exact (zAE (by (with_reducible repeat first | exact HB.out | apply zH | apply zF | apply zG) <;> exact HB.out)) : w.heap.size ≤ gb17)); clear HB; have HB := n0_; have BK17 := n1_; have GW17 := n2_; have GE17 := n3_; clear n0_ n1_ n2_ n3_; clear hb hbox hg) | ((with_reducible refine gate_dst (N := 3) rfl ?_); refine box_event ?hg (N := 3) ?hd (cs := #[.slice A1_0 l1_0.length c1_0, .slice A1_1 l1_1.length c1_1, .slice A1_2 l1_2.length c1_2]) (t := 97) ?hr ?_; (case hd => rfl); (case hg => rfl); (case hr => first | (go_simp; done) | (go_simp; rfl)); intro gb18 hg w10 hbox hb; have n0_ := zA (yE (g := gb17) (o := .cells #[.slice A0_0 l0_0.length c0_0, .slice A0_1 l0_1.length c0_1, .slice A0_2 l0_2.length c0_2] 97 (0, 0)) (by (with_reducible repeat (first | refine zL ?_ _ | refine zN ?_ | refine zM ?_ _)); exact BK17.out) hb); have n1_ := zA (zAD (by repeat (first | (with_reducible first | exact HB.out | apply zH | apply zF | apply zG | refine zI ?_ GE17.out) | exact HB.out)) hb); have n2_ := zA (hbox); have n3_ := zA ((by rw [hg]; exact (zAE (by repeat (first | (with_reducible first | exact HB.out | apply zH | apply zF | apply zG | refine zI ?_ GE17.out) | exact HB.out))) : w.heap.size ≤ gb18)); have n4_ := zA ((by rw [hg]; exact (zAE (by repeat (first | (with_reducible first | exact HB.out | apply zH | apply zF | apply zG | refine zI ?_ GE17.out) | exact HB.out))) : w.heap.size ≤ gb18)); have n5_ := zA ((by rw [hg]; exact zK (blk_lt (g := gb17) (o := .cells #[.slice A0_0 l0_0.length c0_0, .slice A0_1 l0_1.length c0_1, .slice A0_2 l0_2.length c0_2] 97 (0, 0)) (by (with_reducible repeat (first | refine zL ?_ _ | refine zN ?_ | refine zM ?_ _)); exact BK17.out)) : gb17 ≠ gb18)); have n6_ := zA ((by rw [hg]; exact Nat.ne_of_gt (blk_lt (g := gb17) (o := .cells #[.slice A0_0 l0_0.length c0_0, .slice A0_1 l0_1.length c0_1, .slice A0_2 l0_2.length c0_2] 97 (0, 0)) (by (with_reducible repeat (first | refine zL ?_ _ | refine zN ?_ | refine zM ?_ _)); exact BK17.out)) : gb18 ≠ gb17)); clear BK17; clear HB; have BK17 := n0_; have HB := n1_; have BK18 := n2_; have GW18 := n3_; have GE18 := n4_; have NB17_18 := n5_; have NB18_17 := n6_; clear n0_ n1_ n2_ n3_ n4_ n5_ n6_; clear hb hbox hg; have hnb11 := NB17_18.out; have hnc11 := NB18_17.out; have hcz12_0 := yL BK17.out 0 (.slice A0_0 l0_0.length c0_0) rfl; have hcz12_1 := yL BK17.out 1 (.slice A0_1 l0_1.length c0_1) rfl; have hcz12_2 := yL BK17.out 2 (.slice A0_2 l0_2.length c0_2) rfl; have hfz12_0 := zO BK17.out 0; have hfz12_1 := zO BK17.out 1; have hfz12_2 := zO BK17.out 2; have hcz13_0 := yL BK18.out 0 (.slice A1_0 l1_0.length c1_0) rfl; have hcz13_1 := yL BK18.out 1 (.slice A1_1 l1_1.length c1_1) rfl; have hcz13_2 := yL BK18.out 2 (.slice A1_2 l1_2.length c1_2) rfl; have hfz13_0 := zO BK18.out 0; have hfz13_1 := zO BK18.out 1; have hfz13_2 := zO BK18.out 2) | ((with_reducible refine yB (f := 73) rfl ?_); refine goesL_ (some 9) rfl rfl Try.func73 (by kernel_rfl) rfl #[.slice A0_0 l0_0.length c0_0, .slice A1_0 l1_0.length c1_0] rfl (by (try simp only [zAA, zAB, zAC]); first | done | rfl | (simp only [zZ, zY]; rfl)) ?_; (with_reducible refine (laws_eqStringS.calls k _ _ l0_0 _ _ l1_0 true _ ?side1 ?side2 ?side3 ?side4 A3.out ⟨rfl⟩).mono ?_); (case side1 => repeat (first | exact (yN HR0_0.out HB.out) | (with_reducible first | refine zT ?_ _ | refine zU ?_ _ | refine zV ?_))); (case side2 => exact HC0_0.out); (case side3 => repeat (first | exact (yN HR1_0.out HB.out) | (with_reducible first | refine zT ?_ _ | refine zU ?_ _ | refine zV ?_))); (case side4 => exact HC1_0.out); rintro e w' ⟨rfl, ⟨nd, rfl⟩⟩; refine ⟨_, rfl, ?_⟩) | ((with_reducible refine yB (f := 73) rfl ?_); refine goesL_ (some 15) rfl rfl Try.func73 (by kernel_rfl) rfl #[.slice A0_1 l0_1.length c0_1, .slice A1_1 l1_1.length c1_1] rfl (by (try simp only [zAA, zAB, zAC]); first | done | rfl | (simp only [zZ, zY]; rfl)) ?_; (with_reducible refine (laws_eqStringS.calls k _ _ l0_1 _ _ l1_1 true _ ?side1 ?side2 ?side3 ?side4 A5.out ⟨rfl⟩).mono ?_); (case side1 => repeat (first | exact (yN HR0_1.out (by repeat (first | (with_reducible first | exact HB.out | apply zH | apply zF | apply zG | refine zI ?_ GE17.out | refine zI ?_ GE18.out) | exact HB.out))) | (with_reducible first | refine zT ?_ _ | refine zU ?_ _ | refine zV ?_))); (case side2 => exact HC0_1.out); (case side3 => repeat (first | exact (yN HR1_1.out (by repeat (first | (with_reducible first | exact HB.out | apply zH | apply zF | apply zG | refine zI ?_ GE17.out | refine zI ?_ GE18.out) | exact HB.out))) | (with_reducible first | refine zT ?_ _ | refine zU ?_ _ | refine zV ?_))); (case side4 => exact HC1_1.out); rintro e w' ⟨rfl, ⟨nd, rfl⟩⟩; refine ⟨_, rfl, ?_⟩) | ((with_reducible refine yB (f := 45) rfl ?_); refine goesL_ (some 21) rfl rfl Try.func45 (by kernel_rfl) rfl #[.slice A0_2 l0_2.length c0_2, .slice A1_2 l1_2.length c1_2] rfl (by (try simp only [zAA, zAB, zAC]); first | done | rfl | (simp only [zZ, zY]; rfl)) ?_; (with_reducible refine (laws_eqIntS.calls k _ _ l0_2 _ _ l1_2 true _ ?side1 ?side2 ?side3 ?side4 A7.out ⟨rfl⟩).mono ?_); (case side1 => repeat (first | exact (yN HR0_2.out (by repeat (first | (with_reducible first | exact HB.out | apply zH | apply zF | apply zG | refine zI ?_ GE17.out | refine zI ?_ GE18.out) | exact HB.out))) | (with_reducible first | refine zT ?_ _ | refine zU ?_ _ | refine zV ?_))); (case side2 => exact HC0_2.out); (case side3 => repeat (first | exact (yN HR1_2.out (by repeat (first | (with_reducible first | exact HB.out | apply zH | apply zF | apply zG | refine zI ?_ GE17.out | refine zI ?_ GE18.out) | exact HB.out))) | (with_reducible first | refine zT ?_ _ | refine zU ?_ _ | refine zV ?_))); (case side4 => exact HC1_2.out); rintro e w' ⟨rfl, ⟨nd, rfl⟩⟩; refine ⟨_, rfl, ?_⟩))
    go_ret; exact ⟨by first | rfl | (simp <;> rfl) | (simp [*] <;> rfl), by repeat (first | (with_reducible first | exact HB.out | apply zH | apply zF | apply zG | refine zI ?_ GE17.out | refine zI ?_ GE18.out) | exact HB.out)⟩
   ·replace c8 := yO c8
    subst c8; have H1 : (some false) = some r := by rw [if_neg (show ¬ (false = true) by decide)] at H; exact H
    clear H; have H := H1; clear H1; exact absurd ((yM H).trans hr_.out) (by decide)
  ·replace c6 := yO c6
   subst c6; have H1 : (some false) = some r := by rw [if_neg (show ¬ (false = true) by decide)] at H; exact H
   clear H; have H := H1; clear H1; exact absurd ((yM H).trans hr_.out) (by decide)
 ·replace c4 := yO c4
  subst c4; have H1 : (some false) = some r := by rw [if_neg (show ¬ (false = true) by decide)] at H; exact H
  clear H; have H := H1; clear H1; exact absurd ((yM H).trans hr_.out) (by decide)
def laws_eqPageS.l0 : Nat → List (S97) → List (S97) → Int → Option (Bool)
 | 0, _, _, _ => none
 | k + 1, x0, x1, x5 => if x5 < (x0.length : Int) then (if 0 ≤ x5 then (if x5 < (x1.length : Int) then ((laws_eqPage.f k ((rd_T97 x0 x5).f0) ((rd_T97 x0 x5).f1) ((rd_T97 x0 x5).f2) ((rd_T97 x1 x5).f0) ((rd_T97 x1 x5).f1) ((rd_T97 x1 x5).f2)).bind fun t10 => (if t10 = true then (laws_eqPageS.l0 k x0 x1 (wrap64 (x5 + 1))) else (some false))) else (none)) else (none)) else (some true)
def laws_eqPageS.f (k : Nat) (l0 : List (S97)) (l1 : List (S97)) : Option (Bool) := if (l0.length : Int) = (l1.length : Int) then (laws_eqPageS.l0 k l0 l1 0) else (some false)
def laws_eqPageS.T6 : Bool × List (List Nat × List Nat) := (true, [([], []), ([], []), ([0, 1], [0, 1]), ([2], [2]), ([], []), ([], []), ([4, 5], [4, 5]), ([6], [6]), ([3, 7], [3, 7]), ([8], [8])])
def laws_eqPageS.B6 : List Nat := [0, 0, 3, 7, 0, 0, 48, 112, 255, 511]
theorem laws_eqPageS.tab6 : rtab .any (opsOf Try.f30 6) = laws_eqPageS.T6 := by kernel_rfl
theorem laws_eqPageS.bits6 : waitsOk laws_eqPageS.T6.2 laws_eqPageS.B6 = true := by kernel_rfl
theorem laws_eqPageS.calls (k : Nat) (A0 : Option Addr) (c0 : Nat) (l0 : List (S97)) (A1 : Option Addr) (c1 : Nat) (l1 : List (S97)) (r : Bool) (w : World) (hr0 : Kd.C k97 w A0 l0.length l0) (hc0 : l0.length ≤ c0) (hr1 : Kd.C k97 w A1 l1.length l1) (hc1 : l1.length ≤ c1) (h : laws_eqPageS.f k l0 l1 = some r) (hr_ : Aside0 (r = true)) :
  Calls Try.prog 30 #[.slice A0 l0.length c0, .slice A1 l1.length c1] w fun e w' => e = .returned (.bool r) ∧ Below w.heap.size w w' := by
 have hu97 := Try.underlying97; have HR0 := zA hr0; have HC0 := zA hc0; clear hr0 hc0; have HR1 := zA hr1; have HC1 := zA hc1; clear hr1 hc1; have HB := zA (Below.refl w.heap.size w); have H : (if (l0.length : Int) = (l1.length : Int) then (laws_eqPageS.l0 k l0 l1 0) else (some false)) = some r := h; clear h
 by_cases c3 : (l0.length : Int) = (l1.length : Int)
 ·rw [if_pos c3] at H
  have c3b0 : ((l0.length : Int) == (l1.length : Int)) = true := beq_iff_eq.mpr c3; have c3b1 : ((l0.length : Int) != (l1.length : Int)) = false := bne_eq_false_iff_eq.mpr c3; have c3b2 : (l0.length == l1.length) = true := by first | simpa using c3 | (simp at c3 ⊢; omega)
  clear c3; have H' := zA H; clear H; go_enter Try.func30, Try.ntmps30; go_wp2; go_loopg [5] k (fun kq v5 w' => ∃ (x5_1 : Int), v5 = .int .i64 x5_1 ∧ Aside0 (laws_eqPageS.l0 kq l0 l1 x5_1 = some r) ∧ Aside0 (kq ≤ k) ∧ Aside0 (Below w.heap.size w w'))
  case atStart => exact ⟨(0), (by first | rfl | (simp; done) | (simp [*]; done) | (simp [bne]; done)), H', ⟨Nat.le_refl _⟩, ⟨by (with_reducible repeat first | exact HB.out | apply zH | apply zF | apply zG) <;> exact HB.out⟩⟩
  case round =>
   clear H'
   try clear c1
   try clear p2
   try clear c3
   try clear c3b0
   try clear c3b1
   try clear c3b2
   obtain ⟨x5_1, rfl, HA, HK1, HB⟩ := hrel
   cases gk with
   | zero => exact absurd HA.out (by simp [laws_eqPageS.l0])
   | succ k1 =>
    have H := HA.out; clear HA; simp only [laws_eqPageS.l0] at H
    by_cases c4 : x5_1 < (l0.length : Int)
    ·rw [if_pos c4] at H
     have c4b0 : decide (x5_1 < (l0.length : Int)) = true := zX c4; clear c4
     by_cases c5 : 0 ≤ x5_1
     ·rw [if_pos c5] at H
      have c5b0 : decide (0 ≤ x5_1) = true := zX c5; clear c5
      by_cases c6 : x5_1 < (l1.length : Int)
      ·rw [if_pos c6] at H
       have c6b0 : decide (x5_1 < (l1.length : Int)) = true := zX c6; clear c6; replace H := zAF H; obtain ⟨t13, A70, H⟩ := H; replace H : (if t13 = true then (laws_eqPageS.l0 k1 l0 l1 (wrap64 (x5_1 + 1))) else (some false)) = some r := H; have A7 := zA A70; clear A70
       by_cases c8 : t13 = true
       ·subst c8
        have H1 : (laws_eqPageS.l0 k1 l0 l1 (wrap64 (x5_1 + 1))) = some r := by rw [if_pos rfl] at H; exact H
        clear H; have H := H1; clear H1; have H' := zA H; clear H
        try go_wp2
        have n0_ := zA (zG HB.out); clear HB; have HB := n0_; clear n0_; have p14 : 0 ≤ (x5_1 : Int) := zW (by first | (with_reducible assumption) | assumption); have q14 : x5_1 < (l0.length : Int) := zW (by first | (with_reducible assumption) | assumption); obtain ⟨ad14, A14_0, c14_0, A14_1, c14_1, A14_2, c14_2, e14, hx14_0, hx14_1, hx14_2, hl14_0, hi14_0, hl14_1, hi14_1, hl14_2, hi14_2⟩ := at_T97 HR0.out x5_1 p14 q14; have hw14_2 := hx14_2; have hw14_1 := hx14_1; have hw14_0 := hx14_0
        cases e14
        replace hx14_0 := (HB.out.cell (zB w _ hx14_0)).trans hx14_0; replace hx14_1 := (HB.out.cell (zB w _ hx14_1)).trans hx14_1; replace hx14_2 := (HB.out.cell (zB w _ hx14_2)).trans hx14_2; have HR14_0 := zA hi14_0; have HC14_0 := zA hl14_0; clear hi14_0 hl14_0; have HR14_1 := zA hi14_1; have HC14_1 := zA hl14_1; clear hi14_1 hl14_1; have HR14_2 := zA hi14_2; have HC14_2 := zA hl14_2; clear hi14_2 hl14_2; replace p14 := eq_true p14; replace q14 := eq_true q14; have p15 : 0 ≤ (x5_1 : Int) := zW (by first | (with_reducible assumption) | assumption); have q15 : x5_1 < (l1.length : Int) := zW (by first | (with_reducible assumption) | assumption); obtain ⟨ad15, A15_0, c15_0, A15_1, c15_1, A15_2, c15_2, e15, hx15_0, hx15_1, hx15_2, hl15_0, hi15_0, hl15_1, hi15_1, hl15_2, hi15_2⟩ := at_T97 HR1.out x5_1 p15 q15; have hw15_2 := hx15_2; have hw15_1 := hx15_1; have hw15_0 := hx15_0
        cases e15
        replace hx15_0 := (HB.out.cell (zB w _ hx15_0)).trans hx15_0; replace hx15_1 := (HB.out.cell (zB w _ hx15_1)).trans hx15_1; replace hx15_2 := (HB.out.cell (zB w _ hx15_2)).trans hx15_2; have HR15_0 := zA hi15_0; have HC15_0 := zA hl15_0; clear hi15_0 hl15_0; have HR15_1 := zA hi15_1; have HC15_1 := zA hl15_1; clear hi15_1 hl15_1; have HR15_2 := zA hi15_2; have HC15_2 := zA hl15_2; clear hi15_2 hl15_2; replace p15 := eq_true p15; replace q15 := eq_true q15; refine start_ (n := 10) (S := fun w' => w'.cell? (ad14.add ((x5_1).toNat * 3)) = some (.slice A14_0 ((rd_T97 l0 x5_1).f0).length c14_0) ∧ w'.cell? ⟨(ad14.add ((x5_1).toNat * 3)).block, (ad14.add ((x5_1).toNat * 3)).off + 1, none⟩ = some (.slice A14_1 ((rd_T97 l0 x5_1).f1).length c14_1) ∧ w'.cell? ⟨(ad14.add ((x5_1).toNat * 3)).block, (ad14.add ((x5_1).toNat * 3)).off + 2, none⟩ = some (.slice A14_2 ((rd_T97 l0 x5_1).f2).length c14_2) ∧ w'.cell? (ad15.add ((x5_1).toNat * 3)) = some (.slice A15_0 ((rd_T97 l1 x5_1).f0).length c15_0) ∧ w'.cell? ⟨(ad15.add ((x5_1).toNat * 3)).block, (ad15.add ((x5_1).toNat * 3)).off + 1, none⟩ = some (.slice A15_1 ((rd_T97 l1 x5_1).f1).length c15_1) ∧ w'.cell? ⟨(ad15.add ((x5_1).toNat * 3)).block, (ad15.add ((x5_1).toNat * 3)).off + 2, none⟩ = some (.slice A15_2 ((rd_T97 l1 x5_1).f2).length c15_2)) (ds := []) #[false, false, false, false, false, false, false, false, false, false] (by kernel_rfl) rfl rfl ⟨((HB.out.cell (zB w _ hw14_0)).trans hw14_0), ((HB.out.cell (zB w _ hw14_1)).trans hw14_1), ((HB.out.cell (zB w _ hw14_2)).trans hw14_2), ((HB.out.cell (zB w _ hw15_0)).trans hw15_0), ((HB.out.cell (zB w _ hw15_1)).trans hw15_1), ((HB.out.cell (zB w _ hw15_2)).trans hw15_2)⟩ (fun hHeld => ?_); refine with_tabW laws_eqPageS.tab6 laws_eqPageS.bits6 (fun HT_ HW_ => ?_); generalize wr.drew = w9 at HB HR14_0 HR14_1 HR14_2 HR15_0 HR15_1 HR15_2 hx14_0 hx14_1 hx14_2 hx15_0 hx15_1 hx15_2 hHeld ⊢; refine pure_ (i := 0) (N := some 17) (v := ?_) (a' := ?_) #[true, false, false, false, false, false, false, false, false, false] rfl rfl (any_of HT_.out (by kernel_rfl)) (fun _ _ _ h => h) (Or.inl ⟨by rfl, ?_⟩) ?_ ?_; rotate_left
        ·intro w'
         go_simp
         with_reducible rfl
        rotate_left
        ·simp only [Act.put, zC, zD, zE, i64_w]
         rfl
        refine pure_ (i := 1) (N := some 18) (v := ?_) (a' := ?_) #[true, true, false, false, false, false, false, false, false, false] rfl rfl (any_of HT_.out (by kernel_rfl)) (fun _ _ _ h => h) (Or.inl ⟨by rfl, ?_⟩) ?_ ?_; rotate_left
        ·intro w'
         go_simp
         with_reducible rfl
        rotate_left
        ·simp only [Act.put, zC, zD, zE, i64_w]
         rfl
        refine pure_ (i := 2) (N := some 19) (v := ?_) (a' := ?_) #[true, true, true, false, false, false, false, false, false, false] rfl rfl (any_of HT_.out (by kernel_rfl)) (fun _ _ _ h => h) (Or.inl ⟨by rfl, ?_⟩) ?_ ?_; rotate_left
        ·intro w'
         go_simp
         with_reducible rfl
        rotate_left
        ·simp only [Act.put, zC, zD, zE, i64_w]
         rfl
        refine pure_ (i := 4) (N := some 21) (v := ?_) (a' := ?_) #[true, true, true, false, true, false, false, false, false, false] rfl rfl (any_of HT_.out (by kernel_rfl)) (fun _ _ _ h => h) (Or.inl ⟨by rfl, ?_⟩) ?_ ?_; rotate_left
        ·intro w'
         go_simp
         with_reducible rfl
        rotate_left
        ·simp only [Act.put, zC, zD, zE, i64_w]
         rfl
        refine pure_ (i := 5) (N := some 22) (v := ?_) (a' := ?_) #[true, true, true, false, true, true, false, false, false, false] rfl rfl (any_of HT_.out (by kernel_rfl)) (fun _ _ _ h => h) (Or.inl ⟨by rfl, ?_⟩) ?_ ?_; rotate_left
        ·intro w'
         go_simp
         with_reducible rfl
        rotate_left
        ·simp only [Act.put, zC, zD, zE, i64_w]
         rfl
        refine pure_ (i := 6) (N := some 23) (v := ?_) (a' := ?_) #[true, true, true, false, true, true, true, false, false, false] rfl rfl (any_of HT_.out (by kernel_rfl)) (fun _ _ _ h => h) (Or.inl ⟨by rfl, ?_⟩) ?_ ?_; rotate_left
        ·intro w'
         go_simp
         with_reducible rfl
        rotate_left
        ·simp only [Act.put, zC, zD, zE, i64_w]
         rfl
        refine take_ (i := 3) (N := some 20) (v := ?_) (a' := ?_) #[true, true, true, true, true, true, true, false, false, false] rfl rfl (take_ofW HT_.out HW_.out (by kernel_rfl)) (fun _ _ _ h => h) (Or.inl ⟨by rfl, ?_⟩) hHeld ?_ ?_; rotate_left
        ·rintro w' ⟨s0, s1, s2, s3, s4, s5⟩
         go_simp
         with_reducible rfl
        rotate_left
        ·simp only [Act.put, zC, zD, zE, i64_w]
         rfl
        refine take_ (i := 7) (N := some 24) (v := ?_) (a' := ?_) #[true, true, true, true, true, true, true, true, false, false] rfl rfl (take_ofW HT_.out HW_.out (by kernel_rfl)) (fun _ _ _ h => h) (Or.inl ⟨by rfl, ?_⟩) hHeld ?_ ?_; rotate_left
        ·rintro w' ⟨s0, s1, s2, s3, s4, s5⟩
         go_simp
         with_reducible rfl
        rotate_left
        ·simp only [Act.put, zC, zD, zE, i64_w]
         rfl
        refine one_ (i := 8) (N := some 25) #[true, true, true, true, true, true, true, true, true, false] rfl rfl (one_of HT_.out (by kernel_rfl)) (by decide) (fun K hK => ?_); refine goes_ Try.func68 (by kernel_rfl) rfl #[.agg #[.slice A14_0 ((rd_T97 l0 x5_1).f0).length c14_0, .slice A14_1 ((rd_T97 l0 x5_1).f1).length c14_1, .slice A14_2 ((rd_T97 l0 x5_1).f2).length c14_2], .agg #[.slice A15_0 ((rd_T97 l1 x5_1).f0).length c15_0, .slice A15_1 ((rd_T97 l1 x5_1).f1).length c15_1, .slice A15_2 ((rd_T97 l1 x5_1).f2).length c15_2]] (by rfl) rfl rfl (by (try simp only [zAA, zAB, zAC]); first | done | rfl | (simp only [zZ, zY]; rfl)) ?_
        with_reducible refine (laws_eqPage.calls k1 _ _ ((rd_T97 l0 x5_1).f0) _ _ ((rd_T97 l0 x5_1).f1) _ _ ((rd_T97 l0 x5_1).f2) _ _ ((rd_T97 l1 x5_1).f0) _ _ ((rd_T97 l1 x5_1).f1) _ _ ((rd_T97 l1 x5_1).f2) true _ ?side1 ?side2 ?side3 ?side4 ?side5 ?side6 ?side7 ?side8 ?side9 ?side10 ?side11 ?side12 A7.out ⟨rfl⟩).mono ?_
        (case side1 => repeat (first | exact (yN HR14_0.out HB.out) | (with_reducible first | refine zT ?_ _ | refine zU ?_ _ | refine zV ?_))); (case side2 => exact HC14_0.out); (case side3 => repeat (first | exact (yN HR14_1.out HB.out) | (with_reducible first | refine zT ?_ _ | refine zU ?_ _ | refine zV ?_))); (case side4 => exact HC14_1.out); (case side5 => repeat (first | exact (yN HR14_2.out HB.out) | (with_reducible first | refine zT ?_ _ | refine zU ?_ _ | refine zV ?_))); (case side6 => exact HC14_2.out); (case side7 => repeat (first | exact (yN HR15_0.out HB.out) | (with_reducible first | refine zT ?_ _ | refine zU ?_ _ | refine zV ?_))); (case side8 => exact HC15_0.out); (case side9 => repeat (first | exact (yN HR15_1.out HB.out) | (with_reducible first | refine zT ?_ _ | refine zU ?_ _ | refine zV ?_))); (case side10 => exact HC15_1.out); (case side11 => repeat (first | exact (yN HR15_2.out HB.out) | (with_reducible first | refine zT ?_ _ | refine zU ?_ _ | refine zV ?_))); (case side12 => exact HC15_2.out); rintro e w10 ⟨rfl, hb⟩; refine ⟨_, rfl, ?_⟩; have n0_ := zA (zAD (by (with_reducible repeat first | exact HB.out | apply zH | apply zF | apply zG) <;> exact HB.out) hb); clear HB; have HB := n0_; clear n0_; (try clear hb); refine hK.out _ _ ⟨((HB.out.cell (zB w _ hw14_0)).trans hw14_0), ((HB.out.cell (zB w _ hw14_1)).trans hw14_1), ((HB.out.cell (zB w _ hw14_2)).trans hw14_2), ((HB.out.cell (zB w _ hw15_0)).trans hw15_0), ((HB.out.cell (zB w _ hw15_1)).trans hw15_1), ((HB.out.cell (zB w _ hw15_2)).trans hw15_2)⟩ (fun hHeld => ?_); clear hK K; refine norm_ (a' := ?_) ?_ ?_; rotate_left
        ·show Act.put _ (some 25) _ = _
         simp only [Act.put, zC, zD, zE, i64_w]; rfl
        refine pure_ (i := 9) (N := some 26) (v := ?_) (a' := ?_) #[true, true, true, true, true, true, true, true, true, true] rfl rfl (any_of HT_.out (by kernel_rfl)) (fun _ _ _ h => h) (Or.inl ⟨by rfl, ?_⟩) ?_ ?_; rotate_left
        ·intro w'
         go_simp
         with_reducible rfl
        rotate_left
        ·simp only [Act.put, zC, zD, zE, i64_w]
         rfl
        refine done_ (done_of HT_.out (by kernel_rfl)) ?_
        try go_wp2
        go_roundg k1
        case measure => have := HK1.out; omega
        case rel => exact ⟨(wrap64 (x5_1 + 1)), (by first | rfl | (simp; done) | (simp [*]; done) | (simp [bne]; done)), H', ⟨by have := HK1.out; omega⟩, ⟨by (with_reducible repeat first | exact HB.out | apply zH | apply zF | apply zG) <;> exact HB.out⟩⟩
       ·replace c8 := yO c8
        subst c8; have H1 : (some false) = some r := by rw [if_neg (show ¬ (false = true) by decide)] at H; exact H
        clear H; have H := H1; clear H1; exact absurd ((yM H).trans hr_.out) (by decide)
      ·rw [if_neg c6] at H
       exact absurd H (by simp)
     ·rw [if_neg c5] at H
      exact absurd H (by simp)
    ·rw [if_neg c4] at H
     have c4b0 : decide (x5_1 < (l0.length : Int)) = false := decide_eq_false c4; clear c4; obtain rfl := yM H; go_wp2; go_ret; exact ⟨by first | rfl | (simp <;> rfl) | (simp [*] <;> rfl), by (with_reducible repeat first | exact HB.out | apply zH | apply zF | apply zG) <;> exact HB.out⟩
 ·rw [if_neg c3] at H
  have c3b0 : ((l0.length : Int) == (l1.length : Int)) = false := beq_eq_false_iff_ne.mpr c3; have c3b1 : ((l0.length : Int) != (l1.length : Int)) = true := bne_iff_ne.mpr c3; have c3b2 : (l0.length == l1.length) = false := by first | simpa using c3 | (simp at c3 ⊢; omega)
  exact absurd ((yM H).trans hr_.out) (by decide)
def laws_eqTree.f (k : Nat) (l0_0 : List (S97)) (l1_0 : List (S97)) : Option (Bool) := (laws_eqPageS.f k l0_0 l1_0).bind fun t10 => (if t10 = true then (some true) else (some false))
theorem laws_eqTree.calls (k : Nat) (A0_0 : Option Addr) (c0_0 : Nat) (l0_0 : List (S97)) (A1_0 : Option Addr) (c1_0 : Nat) (l1_0 : List (S97)) (r : Bool) (w : World) (hr0_0 : Kd.C k97 w A0_0 l0_0.length l0_0) (hc0_0 : l0_0.length ≤ c0_0) (hr1_0 : Kd.C k97 w A1_0 l1_0.length l1_0) (hc1_0 : l1_0.length ≤ c1_0) (h : laws_eqTree.f k l0_0 l1_0 = some r) (hr_ : Aside0 (r = true)) :
  Calls Try.prog 10 #[.agg #[.slice A0_0 l0_0.length c0_0], .agg #[.slice A1_0 l1_0.length c1_0]] w fun e w' => e = .returned (.bool r) ∧ Below w.heap.size w w' := by
 have hu30 := Try.underlying30; have HR0_0 := zA hr0_0; have HC0_0 := zA hc0_0; clear hr0_0 hc0_0; have HR1_0 := zA hr1_0; have HC1_0 := zA hc1_0; clear hr1_0 hc1_0; have HB := zA (Below.refl w.heap.size w); have H : ((laws_eqPageS.f k l0_0 l1_0).bind fun t11 => (if t11 = true then (some true) else (some false))) = some r := h; clear h; replace H := zAF H; obtain ⟨t11, A30, H⟩ := H; replace H : (if t11 = true then (some true) else (some false)) = some r := H; have A3 := zA A30; clear A30
 by_cases c4 : t11 = true
 ·subst c4
  have H1 : (some true) = some r := by rw [if_pos rfl] at H; exact H
  clear H; have H := H1; clear H1; obtain rfl := yM H; go_enter Try.func10, Try.ntmps10; go_wp2_with (first | ((with_reducible refine gate_dst (N := 2) rfl ?_); refine box_event ?hg (N := 2) ?hd (cs := #[.slice A0_0 l0_0.length c0_0]) (t := 30) ?hr ?_; (case hd => rfl); (case hg => rfl); (case hr => first | (go_simp; done) | (go_simp; rfl)); intro gb12 hg w5 hbox hb; have n0_ := zA (zAD (by (with_reducible repeat first | exact HB.out | apply zH | apply zF | apply zG) <;> exact HB.out) hb); have n1_ := zA (hbox); have n2_ := zA ((by rw [hg]; exact (zAE (by (with_reducible repeat first | exact HB.out | apply zH | apply zF | apply zG) <;> exact HB.out)) : w.heap.size ≤ gb12)); have n3_ := zA ((by rw [hg]; exact (zAE (by (with_reducible repeat first | exact HB.out | apply zH | apply zF | apply zG) <;> exact HB.out)) : w.heap.size ≤ gb12)); clear HB; have HB := n0_; have BK12 := n1_; have GW12 := n2_; have GE12 := n3_; clear n0_ n1_ n2_ n3_; clear hb hbox hg) | ((with_reducible refine gate_dst (N := 3) rfl ?_); refine box_event ?hg (N := 3) ?hd (cs := #[.slice A1_0 l1_0.length c1_0]) (t := 30) ?hr ?_; (case hd => rfl); (case hg => rfl); (case hr => first | (go_simp; done) | (go_simp; rfl)); intro gb13 hg w6 hbox hb; have n0_ := zA (yE (g := gb12) (o := .cells #[.slice A0_0 l0_0.length c0_0] 30 (0, 0)) (by (with_reducible repeat (first | refine zL ?_ _ | refine zN ?_ | refine zM ?_ _)); exact BK12.out) hb); have n1_ := zA (zAD (by repeat (first | (with_reducible first | exact HB.out | apply zH | apply zF | apply zG | refine zI ?_ GE12.out) | exact HB.out)) hb); have n2_ := zA (hbox); have n3_ := zA ((by rw [hg]; exact (zAE (by repeat (first | (with_reducible first | exact HB.out | apply zH | apply zF | apply zG | refine zI ?_ GE12.out) | exact HB.out))) : w.heap.size ≤ gb13)); have n4_ := zA ((by rw [hg]; exact (zAE (by repeat (first | (with_reducible first | exact HB.out | apply zH | apply zF | apply zG | refine zI ?_ GE12.out) | exact HB.out))) : w.heap.size ≤ gb13)); have n5_ := zA ((by rw [hg]; exact zK (blk_lt (g := gb12) (o := .cells #[.slice A0_0 l0_0.length c0_0] 30 (0, 0)) (by (with_reducible repeat (first | refine zL ?_ _ | refine zN ?_ | refine zM ?_ _)); exact BK12.out)) : gb12 ≠ gb13)); have n6_ := zA ((by rw [hg]; exact Nat.ne_of_gt (blk_lt (g := gb12) (o := .cells #[.slice A0_0 l0_0.length c0_0] 30 (0, 0)) (by (with_reducible repeat (first | refine zL ?_ _ | refine zN ?_ | refine zM ?_ _)); exact BK12.out)) : gb13 ≠ gb12)); clear BK12; clear HB; have BK12 := n0_; have HB := n1_; have BK13 := n2_; have GW13 := n3_; have GE13 := n4_; have NB12_13 := n5_; have NB13_12 := n6_; clear n0_ n1_ n2_ n3_ n4_ n5_ n6_; clear hb hbox hg; have hnb7 := NB12_13.out; have hnc7 := NB13_12.out; have hcz8_0 := yL BK12.out 0 (.slice A0_0 l0_0.length c0_0) rfl; have hfz8_0 := zO BK12.out 0; have hcz9_0 := yL BK13.out 0 (.slice A1_0 l1_0.length c1_0) rfl; have hfz9_0 := zO BK13.out 0) | ((with_reducible refine yB (f := 30) rfl ?_); refine goesL_ (some 9) rfl rfl Try.func30 (by kernel_rfl) rfl #[.slice A0_0 l0_0.length c0_0, .slice A1_0 l1_0.length c1_0] rfl (by (try simp only [zAA, zAB, zAC]); first | done | rfl | (simp only [zZ, zY]; rfl)) ?_; (with_reducible refine (laws_eqPageS.calls k _ _ l0_0 _ _ l1_0 true _ ?side1 ?side2 ?side3 ?side4 A3.out ⟨rfl⟩).mono ?_); (case side1 => repeat (first | exact (yN HR0_0.out HB.out) | (with_reducible first | refine zT ?_ _ | refine zU ?_ _ | refine zV ?_))); (case side2 => exact HC0_0.out); (case side3 => repeat (first | exact (yN HR1_0.out HB.out) | (with_reducible first | refine zT ?_ _ | refine zU ?_ _ | refine zV ?_))); (case side4 => exact HC1_0.out); rintro e w10 ⟨rfl, hb⟩; refine ⟨_, rfl, ?_⟩; have n0_ := zA (yE (g := gb12) (o := .cells #[.slice A0_0 l0_0.length c0_0] 30 (0, 0)) (by (with_reducible repeat (first | refine zL ?_ _ | refine zN ?_ | refine zM ?_ _)); exact BK12.out) hb); have n1_ := zA (yE (g := gb13) (o := .cells #[.slice A1_0 l1_0.length c1_0] 30 (0, 0)) (by (with_reducible repeat (first | refine zL ?_ _ | refine zN ?_ | refine zM ?_ _)); exact BK13.out) hb); have n2_ := zA (zAD (by repeat (first | (with_reducible first | exact HB.out | apply zH | apply zF | apply zG | refine zI ?_ GE12.out | refine zI ?_ GE13.out) | exact HB.out)) hb); clear BK12; clear BK13; clear HB; have BK12 := n0_; have BK13 := n1_; have HB := n2_; clear n0_ n1_ n2_; (try clear hb))); go_ret; exact ⟨by first | rfl | (simp <;> rfl) | (simp [*] <;> rfl), by repeat (first | (with_reducible first | exact HB.out | apply zH | apply zF | apply zG | refine zI ?_ GE12.out | refine zI ?_ GE13.out) | exact HB.out)⟩
 ·replace c4 := yO c4
  subst c4; have H1 : (some false) = some r := by rw [if_neg (show ¬ (false = true) by decide)] at H; exact H
  clear H; have H := H1; clear H1; exact absurd ((yM H).trans hr_.out) (by decide)
end Go.Proofs.Ytnplghcbdaiogaa.PA
end
