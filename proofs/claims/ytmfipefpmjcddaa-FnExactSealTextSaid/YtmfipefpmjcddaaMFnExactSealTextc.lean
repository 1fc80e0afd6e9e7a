/- For the law FnExactSealText (laid by merge.py). -/
import Derived.Test.YtmfipefpmjcddaaMFnExactSealTextb
section
namespace Go.Proofs.Ytmfipefpmjcddaa.PA
open Go.RowKit Go.Proofs.YtmfipefpmjcddaaW.PrintWords Go.Proofs.YtmfipefpmjcddaaW.PrintLast Go.Proofs.YtmfipefpmjcddaaW.PrintMore
attribute [local go_sem] max2_int min2_int max_two min_two max_three min_three max_four min_four
set_option linter.unusedVariables false
set_option linter.unusedSimpArgs false
set_option maxHeartbeats 60000000
set_option maxRecDepth 100000
def impl_Mix_feed.l0 : Nat → ByteArray → Int → Int → Int → Int → Int → Option (Int × Int × Int)
 | 0, _, _, _, _, _, _ => none
 | k + 1, x1, x7, x8, x10, x11, x12 => if x8 < x7 then (if 0 ≤ x8 then (if x8 < (x1.size : Int) then (impl_Mix_feed.l0 k x1 x7 (wrap64 (x8 + 1)) (Int.tmod (wrap64 (x10 + (wrap64 (bt x1 x8)))) 65521) (Int.tmod (wrap64 (x11 + (Int.tmod (wrap64 (x10 + (wrap64 (bt x1 x8)))) 65521))) 65521) x12) else (none)) else (none)) else (some (x10, x11, wrap64 (x12 + (x1.size : Int))))
def impl_Mix_feed.f (k : Nat) (a0_0 : Int) (a0_1 : Int) (a0_2 : Int) (a1 : ByteArray) : Option (Int × Int × Int) := impl_Mix_feed.l0 k a1 (a1.size : Int) 0 a0_0 a0_1 a0_2
def impl_Mix_feed.T4 : Bool × List (List Nat × List Nat) := (true, [([], []), ([0], [0]), ([], []), ([], []), ([2, 3], [2, 3]), ([4], [4]), ([1, 5], [1, 5]), ([6], [6]), ([0, 1, 2, 3, 4, 5, 6, 7], []), ([8, 7, 0, 1, 2, 3, 4, 5, 6, 7], [7, 8])])
def impl_Mix_feed.B4 : List Nat := [0, 1, 0, 0, 12, 28, 63, 127, 255, 511]
theorem impl_Mix_feed.tab4 : rtab .any (opsOf Try.f212 4) = impl_Mix_feed.T4 := by kernel_rfl
theorem impl_Mix_feed.bits4 : waitsOk impl_Mix_feed.T4.2 impl_Mix_feed.B4 = true := by kernel_rfl
theorem impl_Mix_feed.calls (k : Nat) (a0_0 : Int) (a0_1 : Int) (a0_2 : Int) (a1 : ByteArray) (r1 : Int) (r2 : Int) (r3 : Int) (w : World) (h : impl_Mix_feed.f k a0_0 a0_1 a0_2 a1 = some (r1, r2, r3)) :
  Calls Try.prog 212 #[.agg #[.int .i64 a0_0, .int .i64 a0_1, .int .i64 a0_2], .string a1] w fun e w' => e = .returned (.agg #[.int .i64 r1, .int .i64 r2, .int .i64 r3]) ∧ Below w.heap.size w w' := by
 have hu219 := Try.underlying219; have HB := zA (Below.refl w.heap.size w); have H : (impl_Mix_feed.l0 k a1 (a1.size : Int) 0 a0_0 a0_1 a0_2) = some (r1, r2, r3) := h; clear h; have H' := zA H; clear H; go_enter Try.func212, Try.ntmps212; go_wp2_with (first | ((with_reducible refine gate_dst (N := 2) rfl ?_); refine box_event ?hg (N := 2) ?hd (cs := #[.int .i64 a0_0, .int .i64 a0_1, .int .i64 a0_2]) (t := 219) ?hr ?_; (case hd => rfl); (case hg => rfl); (case hr => first | (go_simp; done) | (go_simp; rfl)); intro gb16 hg w3 hbox hb; have n0_ := zA (zAD (by (with_reducible repeat first | exact HB.out | apply zH | apply zF | apply zG) <;> exact HB.out) hb); have n1_ := zA (hbox); have n2_ := zA ((by rw [hg]; exact (zAE (by (with_reducible repeat first | exact HB.out | apply zH | apply zF | apply zG) <;> exact HB.out)) : w.heap.size ≤ gb16)); have n3_ := zA ((by rw [hg]; exact (zAE (by (with_reducible repeat first | exact HB.out | apply zH | apply zF | apply zG) <;> exact HB.out)) : w.heap.size ≤ gb16)); clear HB; have HB := n0_; have BK16 := n1_; have GW16 := n2_; have GE16 := n3_; clear n0_ n1_ n2_ n3_; clear hb hbox hg) | ((with_reducible refine gate_dst (N := 4) rfl ?_); refine box_event ?hg (N := 4) ?hd (cs := #[.int .i64 0, .int .i64 0, .int .i64 0]) (t := 219) ?hr ?_; (case hd => rfl); (case hg => rfl); (case hr => first | (go_simp; done) | (go_simp; rfl)); intro gb17 hg w4 hbox hb; have n0_ := zA (yE (g := gb16) (o := .cells #[.int .i64 a0_0, .int .i64 a0_1, .int .i64 a0_2] 219 (0, 0)) (by (with_reducible repeat (first | refine zL ?_ _ | refine zN ?_ | refine zM ?_ _)); exact BK16.out) hb); have n1_ := zA (zAD (by repeat (first | (with_reducible first | exact HB.out | apply zH | apply zF | apply zG | refine zI ?_ GE16.out) | exact HB.out)) hb); have n2_ := zA (hbox); have n3_ := zA ((by rw [hg]; exact (zAE (by repeat (first | (with_reducible first | exact HB.out | apply zH | apply zF | apply zG | refine zI ?_ GE16.out) | exact HB.out))) : w.heap.size ≤ gb17)); have n4_ := zA ((by rw [hg]; exact (zAE (by repeat (first | (with_reducible first | exact HB.out | apply zH | apply zF | apply zG | refine zI ?_ GE16.out) | exact HB.out))) : w.heap.size ≤ gb17)); have n5_ := zA ((by rw [hg]; exact zK (blk_lt (g := gb16) (o := .cells #[.int .i64 a0_0, .int .i64 a0_1, .int .i64 a0_2] 219 (0, 0)) (by (with_reducible repeat (first | refine zL ?_ _ | refine zN ?_ | refine zM ?_ _)); exact BK16.out)) : gb16 ≠ gb17)); have n6_ := zA ((by rw [hg]; exact Nat.ne_of_gt (blk_lt (g := gb16) (o := .cells #[.int .i64 a0_0, .int .i64 a0_1, .int .i64 a0_2] 219 (0, 0)) (by (with_reducible repeat (first | refine zL ?_ _ | refine zN ?_ | refine zM ?_ _)); exact BK16.out)) : gb17 ≠ gb16)); clear BK16; clear HB; have BK16 := n0_; have HB := n1_; have BK17 := n2_; have GW17 := n3_; have GE17 := n4_; have NB16_17 := n5_; have NB17_16 := n6_; clear n0_ n1_ n2_ n3_ n4_ n5_ n6_; clear hb hbox hg)); go_loopg [8] k (fun kq v8 w' => ∃ (x8_1 : Int) (x18_1 : Int) (x19_1 : Int), v8 = .int .i64 x8_1 ∧ Aside0 (impl_Mix_feed.l0 kq a1 (a1.size : Int) x8_1 x18_1 x19_1 a0_2 = some (r1, r2, r3)) ∧ Aside0 (kq ≤ k) ∧ Aside0 (w'.heap[gb16]? = some (.cells #[.int .i64 x18_1, .int .i64 x19_1, .int .i64 a0_2] 219 (0, 0))) ∧ Aside0 (w'.heap[gb17]? = some (.cells #[.int .i64 0, .int .i64 0, .int .i64 0] 219 (0, 0))) ∧ Aside0 (Below w.heap.size w w'))
 case atStart => exact ⟨(0), (a0_0), (a0_1), (by first | rfl | (simp; done) | (simp [*]; done) | (simp [bne]; done)), H', ⟨Nat.le_refl _⟩, ⟨by (with_reducible repeat (first | refine zL ?_ _ | refine zN ?_ | refine zM ?_ _)); exact BK16.out⟩, ⟨by (with_reducible repeat (first | refine zL ?_ _ | refine zN ?_ | refine zM ?_ _)); exact BK17.out⟩, ⟨by repeat (first | (with_reducible first | exact HB.out | apply zH | apply zF | apply zG | refine zI ?_ GE16.out | refine zI ?_ GE17.out) | exact HB.out)⟩⟩
 case round =>
  clear H'
  try clear c2
  try clear p2
  obtain ⟨x8_1, x18_1, x19_1, rfl, HA, HK1, BK16, BK17, HB⟩ := hrel
  cases gk with
  | zero => exact absurd HA.out (by simp [impl_Mix_feed.l0])
  | succ k1 =>
   have H := HA.out; clear HA; simp only [impl_Mix_feed.l0] at H
   by_cases c5 : x8_1 < (a1.size : Int)
   ·rw [if_pos c5] at H
    have c5b0 : decide (x8_1 < (a1.size : Int)) = true := zX c5; clear c5
    by_cases c6 : 0 ≤ x8_1
    ·rw [if_pos c6] at H
     have c6b0 : decide (0 ≤ x8_1) = true := zX c6; clear c6
     by_cases c7 : x8_1 < (a1.size : Int)
     ·rw [if_pos c7] at H
      have c7b0 : decide (x8_1 < (a1.size : Int)) = true := zX c7; clear c7; have H' := zA H; clear H
      try go_wp2
      have n0_ := zA (zN BK16.out); have n1_ := zA (zN BK17.out); have n2_ := zA (zG HB.out); clear BK16 BK17 HB; have BK16 := n0_; have BK17 := n1_; have HB := n2_; clear n0_ n1_ n2_; have p8 : 0 ≤ (x8_1 : Int) := zW (by first | (with_reducible assumption) | assumption); have q8 : x8_1 < (a1.size : Int) := zW (by first | (with_reducible assumption) | assumption); have hx8 := bt_at a1 x8_1; replace p8 := eq_true p8; replace q8 := eq_true q8; refine start_ (n := 10) (S := fun w' => w'.cell? ⟨gb16, 0, none⟩ = some (.int .i64 x18_1) ∧ w'.cell? ⟨gb16, 1, none⟩ = some (.int .i64 x19_1) ∧ w'.cell? ⟨gb16, 2, none⟩ = some (.int .i64 a0_2)) (ds := [9]) #[false, false, false, false, false, false, false, false, false, false] (by kernel_rfl) rfl rfl ⟨(zP BK16.out 0).trans rfl, (zP BK16.out 1).trans rfl, (zP BK16.out 2).trans rfl⟩ (fun hHeld => ?_); refine with_tabW impl_Mix_feed.tab4 impl_Mix_feed.bits4 (fun HT_ HW_ => ?_); generalize wr.drew = w9 at BK16 BK17 HB hHeld ⊢; refine pure_ (i := 0) (N := some 11) (v := ?_) (a' := ?_) #[true, false, false, false, false, false, false, false, false, false] rfl rfl (any_of HT_.out (by kernel_rfl)) (fun _ _ _ h => h) (Or.inl ⟨by rfl, ?_⟩) ?_ ?_; rotate_left
      ·intro w'
       go_simp
       with_reducible rfl
      rotate_left
      ·simp only [Act.put, zC, zD, zE, i64_w]
       rfl
      refine pure_ (i := 2) (N := some 13) (v := ?_) (a' := ?_) #[true, false, true, false, false, false, false, false, false, false] rfl rfl (any_of HT_.out (by kernel_rfl)) (fun _ _ _ h => h) (Or.inl ⟨by rfl, ?_⟩) ?_ ?_; rotate_left
      ·intro w'
       go_simp
       with_reducible rfl
      rotate_left
      ·simp only [Act.put, zC, zD, zE, i64_w]
       rfl
      refine pure_ (i := 3) (N := some 14) (v := ?_) (a' := ?_) #[true, false, true, true, false, false, false, false, false, false] rfl rfl (any_of HT_.out (by kernel_rfl)) (fun _ _ _ h => h) (Or.inl ⟨by rfl, ?_⟩) ?_ ?_; rotate_left
      ·intro w'
       go_simp
       with_reducible rfl
      rotate_left
      ·simp only [Act.put, zC, zD, zE, i64_w]
       rfl
      refine take_ (i := 1) (N := some 12) (v := ?_) (a' := ?_) #[true, true, true, true, false, false, false, false, false, false] rfl rfl (take_ofW HT_.out HW_.out (by kernel_rfl)) (fun _ _ _ h => h) (Or.inl ⟨by rfl, ?_⟩) hHeld ?_ ?_; rotate_left
      ·rintro w' ⟨s0, s1, s2⟩
       go_simp
       with_reducible rfl
      rotate_left
      ·simp only [Act.put, zC, zD, zE, i64_w]
       rfl
      refine take_ (i := 4) (N := some 15) (v := ?_) (a' := ?_) #[true, true, true, true, true, false, false, false, false, false] rfl rfl (take_ofW HT_.out HW_.out (by kernel_rfl)) (fun _ _ _ h => h) (Or.inl ⟨by rfl, ?_⟩) hHeld ?_ ?_; rotate_left
      ·rintro w' ⟨s0, s1, s2⟩
       go_simp
       with_reducible rfl
      rotate_left
      ·simp only [Act.put, zC, zD, zE, i64_w]
       rfl
      refine pure_ (i := 5) (N := some 16) (v := ?_) (a' := ?_) #[true, true, true, true, true, true, false, false, false, false] rfl rfl (any_of HT_.out (by kernel_rfl)) (fun _ _ _ h => h) (Or.inl ⟨by rfl, ?_⟩) ?_ ?_; rotate_left
      ·intro w'
       go_simp
       with_reducible rfl
      rotate_left
      ·simp only [Act.put, zC, zD, zE, i64_w]
       rfl
      refine pure_ (i := 6) (N := some 17) (v := ?_) (a' := ?_) #[true, true, true, true, true, true, true, false, false, false] rfl rfl (any_of HT_.out (by kernel_rfl)) (fun _ _ _ h => h) (Or.inl ⟨by rfl, ?_⟩) ?_ ?_; rotate_left
      ·intro w'
       go_simp
       with_reducible rfl
      rotate_left
      ·simp only [Act.put, zC, zD, zE, i64_w]
       rfl
      refine pure_ (i := 7) (N := some 18) (v := ?_) (a' := ?_) #[true, true, true, true, true, true, true, true, false, false] rfl rfl (any_of HT_.out (by kernel_rfl)) (fun _ _ _ h => h) (Or.inl ⟨by rfl, ?_⟩) ?_ ?_; rotate_left
      ·intro w'
       go_simp
       with_reducible rfl
      rotate_left
      ·simp only [Act.put, zC, zD, zE, i64_w]
       rfl
      refine pure_ (i := 8) (N := some 19) (v := ?_) (a' := ?_) #[true, true, true, true, true, true, true, true, true, false] rfl rfl (any_of HT_.out (by kernel_rfl)) (fun _ _ _ h => h) (Or.inl ⟨by rfl, ?_⟩) ?_ ?_; rotate_left
      ·intro w'
       go_simp
       with_reducible rfl
      rotate_left
      ·simp only [Act.put, zC, zD, zE, i64_w]
       rfl
      refine last_ (i := 9) (N := none) #[true, true, true, true, true, true, true, true, true, true] rfl rfl (one_of HT_.out (by kernel_rfl)) (by decide) (fun K hK => ?_); have hs10 : w9.cell? ⟨gb16, 0, none⟩ = some (.int .i64 x18_1) := (zP BK16.out 0).trans rfl; have hfs10 := zO BK16.out 0; have hns10_1 := NB17_16.out; have hms10_1 := NB16_17.out; refine skip_ (w1 := ?_) (by rfl) rfl ?_ ?_; rotate_left
      ·go_simp
       rfl
      refine hK.out _ _ ?_; clear hK K; refine done_ (done_of HT_.out (by kernel_rfl)) ?_; have hnb11 := NB16_17.out; have hnc11 := NB17_16.out; have hcz12_0 := yL BK16.out 0 (.int .i64 x18_1) rfl; have hcz12_1 := yL BK16.out 1 (.int .i64 x19_1) rfl; have hcz12_2 := yL BK16.out 2 (.int .i64 a0_2) rfl; have hfz12_0 := zO BK16.out 0; have hfz12_1 := zO BK16.out 1; have hfz12_2 := zO BK16.out 2
      try go_wp2
      go_roundg k1
      case measure => have := HK1.out; omega
      case rel => exact ⟨(wrap64 (x8_1 + 1)), (Int.tmod (wrap64 (x18_1 + (wrap64 (bt a1 x8_1)))) 65521), (Int.tmod (wrap64 (x19_1 + (Int.tmod (wrap64 (x18_1 + (wrap64 (bt a1 x8_1)))) 65521))) 65521), (by first | rfl | (simp; done) | (simp [*]; done) | (simp [bne]; done)), H', ⟨by have := HK1.out; omega⟩, ⟨by (with_reducible repeat (first | refine zL ?_ _ | refine zN ?_ | refine zM ?_ _)); refine blk_put (cs := #[.int .i64 (Int.tmod (wrap64 (x18_1 + (wrap64 (bt a1 x8_1)))) 65521), .int .i64 x19_1, .int .i64 a0_2]) ?_ 1 _ rfl; (with_reducible repeat (first | refine zL ?_ _ | refine zN ?_ | refine zM ?_ _)); refine blk_put (cs := #[.int .i64 x18_1, .int .i64 x19_1, .int .i64 a0_2]) ?_ 0 _ rfl; (with_reducible repeat (first | refine zL ?_ _ | refine zN ?_ | refine zM ?_ _)); exact BK16.out⟩, ⟨by (with_reducible repeat (first | refine zL ?_ _ | refine zN ?_ | refine zM ?_ _)); refine blk_far ?_ NB17_16.out _; (with_reducible repeat (first | refine zL ?_ _ | refine zN ?_ | refine zM ?_ _)); refine blk_far ?_ NB17_16.out _; (with_reducible repeat (first | refine zL ?_ _ | refine zN ?_ | refine zM ?_ _)); exact BK17.out⟩, ⟨by repeat (first | (with_reducible first | exact HB.out | apply zH | apply zF | apply zG | refine zI ?_ GE16.out | refine zI ?_ GE17.out) | exact HB.out)⟩⟩
     ·rw [if_neg c7] at H
      exact absurd H (by simp)
    ·rw [if_neg c6] at H
     exact absurd H (by simp)
   ·rw [if_neg c5] at H
    have c5b0 : decide (x8_1 < (a1.size : Int)) = false := decide_eq_false c5; clear c5; simp only [Option.some.injEq, Prod.mk.injEq] at H; obtain ⟨rfl, rfl, rfl⟩ := H; have hnb13 := NB16_17.out; have hnc13 := NB17_16.out; have hcz14_0 := yL BK16.out 0 (.int .i64 x18_1) rfl; have hcz14_1 := yL BK16.out 1 (.int .i64 x19_1) rfl; have hcz14_2 := yL BK16.out 2 (.int .i64 a0_2) rfl; have hfz14_0 := zO BK16.out 0; have hfz14_1 := zO BK16.out 1; have hfz14_2 := zO BK16.out 2; have hcz15_0 := yL BK17.out 0 (.int .i64 0) rfl; have hcz15_1 := yL BK17.out 1 (.int .i64 0) rfl; have hcz15_2 := yL BK17.out 2 (.int .i64 0) rfl; have hfz15_0 := zO BK17.out 0; have hfz15_1 := zO BK17.out 1; have hfz15_2 := zO BK17.out 2; go_wp2; refine bodyPost_ret (results_cell_row rfl _ _ gb17 219 #[.int .i64 x18_1, .int .i64 x19_1, .int .i64 (wrap64 (a0_2 + (a1.size : Int)))] (0, 0) _ rfl (by (with_reducible repeat (first | refine zL ?_ _ | refine zN ?_ | refine zM ?_ _)); refine blk_put (cs := #[.int .i64 x18_1, .int .i64 x19_1, .int .i64 0]) ?_ 2 _ rfl; (with_reducible repeat (first | refine zL ?_ _ | refine zN ?_ | refine zM ?_ _)); refine blk_put (cs := #[.int .i64 x18_1, .int .i64 0, .int .i64 0]) ?_ 1 _ rfl; (with_reducible repeat (first | refine zL ?_ _ | refine zN ?_ | refine zM ?_ _)); refine blk_put (cs := #[.int .i64 0, .int .i64 0, .int .i64 0]) ?_ 0 _ rfl; (with_reducible repeat (first | refine zL ?_ _ | refine zN ?_ | refine zM ?_ _)); refine blk_far ?_ NB17_16.out _; (with_reducible repeat (first | refine zL ?_ _ | refine zN ?_ | refine zM ?_ _)); exact BK17.out) Try.underlying219 rfl (by kernel_rfl)) rfl ?_; exact ⟨by first | rfl | (simp <;> rfl) | (simp [*] <;> rfl), by repeat (first | (with_reducible first | exact HB.out | apply zH | apply zF | apply zG | refine zI ?_ GE16.out | refine zI ?_ GE17.out) | exact HB.out)⟩
def impl_Mix_end.f (a0_0 : Int) (a0_1 : Int) (a0_2 : Int) : Option (ByteArray) := some (strOfNums (([(wrap64 (Int.tdiv a0_1 256)) % 256, (Int.tmod a0_1 256) % 256, (wrap64 (Int.tdiv a0_0 256)) % 256, (Int.tmod a0_0 256) % 256] : List Int)))
theorem impl_Mix_end.calls (a0_0 : Int) (a0_1 : Int) (a0_2 : Int) (r : ByteArray) (w : World) (h : impl_Mix_end.f a0_0 a0_1 a0_2 = some r) :
  Calls Try.prog 213 #[.agg #[.int .i64 a0_0, .int .i64 a0_1, .int .i64 a0_2]] w fun e w' => e = .returned (.string r) ∧ Below w.heap.size w w' := by
 have hu219 := Try.underlying219; have HB := zA (Below.refl w.heap.size w); have H : (some (strOfNums (([(wrap64 (Int.tdiv a0_1 256)) % 256, (Int.tmod a0_1 256) % 256, (wrap64 (Int.tdiv a0_0 256)) % 256, (Int.tmod a0_0 256) % 256] : List Int)))) = some r := h; clear h; obtain ⟨y10, hy10⟩ : ∃ y_ : List Int, y_ = (([(wrap64 (Int.tdiv a0_1 256)) % 256, (Int.tmod a0_1 256) % 256, (wrap64 (Int.tdiv a0_0 256)) % 256, (Int.tmod a0_0 256) % 256] : List Int)) := ⟨_, rfl⟩; replace H : (some (strOfNums y10)) = some r := by first | (rw [hy10]; with_reducible exact H) | (have H2_ := (Option.bind_some _ _).symm.trans H; rw [hy10]; with_reducible exact H2_) | (have H2_ := (Option.bind_some _ _).symm.trans H; with_reducible exact H2_) | with_reducible exact H | (rw [hy10]; exact H) | exact H
 have Ny10 := zA hy10; clear hy10; obtain rfl := yM H; go_enter Try.func213, Try.ntmps213; go_wp2_with (first | ((with_reducible refine gate_dst (N := 1) rfl ?_); refine box_event ?hg (N := 1) ?hd (cs := #[.int .i64 a0_0, .int .i64 a0_1, .int .i64 a0_2]) (t := 219) ?hr ?_; (case hd => rfl); (case hg => rfl); (case hr => first | (go_simp; done) | (go_simp; rfl)); intro gb11 hg w2 hbox hb; have n0_ := zA (zAD (by (with_reducible repeat first | exact HB.out | apply zH | apply zF | apply zG) <;> exact HB.out) hb); have n1_ := zA (hbox); have n2_ := zA ((by rw [hg]; exact (zAE (by (with_reducible repeat first | exact HB.out | apply zH | apply zF | apply zG) <;> exact HB.out)) : w.heap.size ≤ gb11)); have n3_ := zA ((by rw [hg]; exact (zAE (by (with_reducible repeat first | exact HB.out | apply zH | apply zF | apply zG) <;> exact HB.out)) : w.heap.size ≤ gb11)); clear HB; have HB := n0_; have BK11 := n1_; have GW11 := n2_; have GE11 := n3_; clear n0_ n1_ n2_ n3_; clear hb hbox hg; have hcz3_0 := yL BK11.out 0 (.int .i64 a0_0) rfl; have hcz3_1 := yL BK11.out 1 (.int .i64 a0_1) rfl; have hcz3_2 := yL BK11.out 2 (.int .i64 a0_2) rfl; have hfz3_0 := zO BK11.out 0; have hfz3_1 := zO BK11.out 1; have hfz3_2 := zO BK11.out 2) | ((with_reducible refine gate_dst (N := 19) rfl ?_); refine Kd.R_lit (Kd.int .u8) _ 5 ?hg (N := 19) ?hd (xs := ([(wrap64 (Int.tdiv a0_1 256)) % 256, (Int.tmod a0_1 256) % 256, (wrap64 (Int.tdiv a0_0 256)) % 256, (Int.tmod a0_0 256) % 256] : List Int)) (inner := [.int .u8 ((wrap64 (Int.tdiv a0_1 256)) % 256), .int .u8 ((Int.tmod a0_1 256) % 256), .int .u8 ((wrap64 (Int.tdiv a0_0 256)) % 256), .int .u8 ((Int.tmod a0_0 256) % 256)]) (ok := fun _ => True) (okp := fun _ => True) ?hr ?hp (fun _ hk => hk) trivial (Below.refl _ _) (Nat.le_refl _) (by simp) ?_; (case hd => rfl); (case hg => rfl); (case hr => first | (go_simp; done) | (go_simp; rfl)); (case hp => exact (Reps.one (show Kd.M (Kd.int .u8) _ _ _ ((wrap64 (Int.tdiv a0_1 256)) % 256) [.int .u8 ((wrap64 (Int.tdiv a0_1 256)) % 256)] from rfl) (Reps.one (show Kd.M (Kd.int .u8) _ _ _ ((Int.tmod a0_1 256) % 256) [.int .u8 ((Int.tmod a0_1 256) % 256)] from rfl) (Reps.one (show Kd.M (Kd.int .u8) _ _ _ ((wrap64 (Int.tdiv a0_0 256)) % 256) [.int .u8 ((wrap64 (Int.tdiv a0_0 256)) % 256)] from rfl) (Reps.one (show Kd.M (Kd.int .u8) _ _ _ ((Int.tmod a0_0 256) % 256) [.int .u8 ((Int.tmod a0_0 256) % 256)] from rfl) (Reps.none _ _)))))); intro v12 w4 ho5 hb hg_ hnew_; clear hg_ hnew_; (first | rw [← Ny10.out] at ho5 | (simp only [Int.reduceToNat] at ho5; rw [← Ny10.out] at ho5)); have n0_ := zA (Kd.R_lower ho5 (zAE (by repeat (first | (with_reducible first | exact HB.out | apply zH | apply zF | apply zG | refine zI ?_ GE11.out) | exact HB.out)))); have n1_ := zA (yE (g := gb11) (o := .cells #[.int .i64 a0_0, .int .i64 a0_1, .int .i64 a0_2] 219 (0, 0)) (by (with_reducible repeat (first | refine zL ?_ _ | refine zN ?_ | refine zM ?_ _)); exact BK11.out) hb); have n2_ := zA (zAD (by repeat (first | (with_reducible first | exact HB.out | apply zH | apply zF | apply zG | refine zI ?_ GE11.out) | exact HB.out)) hb); clear BK11; clear HB; have HO13 := n0_; have BK11 := n1_; have HB := n2_; clear n0_ n1_ n2_; clear hb ho5; have hcv6 := own_string (P := Try.prog) Try.underlying22 Try.underlying5 Try.underlying9 (Kd.own_of_R HO13.out))); go_ret; exact ⟨by first | rfl | (simp <;> rfl) | (simp [*] <;> rfl), by repeat (first | (with_reducible first | exact HB.out | apply zH | apply zF | apply zG | refine zI ?_ GE11.out) | exact HB.out)⟩
def impl_digest.f (k : Nat) (a0 : Int) (a1 : ByteArray) : Option (ByteArray) := (impl_newMix.f a0).bind fun bt10 => ((impl_Mix_feed.f k bt10.1 bt10.2.1 bt10.2.2 a1).bind fun bt11 => ((impl_Mix_end.f bt11.1 bt11.2.1 bt11.2.2).bind fun t12 => (some t12)))
theorem impl_digest.calls (k : Nat) (a0 : Int) (a1 : ByteArray) (r : ByteArray) (w : World) (h : impl_digest.f k a0 a1 = some r) :
  Calls Try.prog 179 #[.int .u8 a0, .string a1] w fun e w' => e = .returned (.string r) ∧ Below w.heap.size w w' := by
 have HB := zA (Below.refl w.heap.size w); have H : ((impl_newMix.f a0).bind fun bt10 => ((impl_Mix_feed.f k bt10.1 bt10.2.1 bt10.2.2 a1).bind fun bt11 => ((impl_Mix_end.f bt11.1 bt11.2.1 bt11.2.2).bind fun t12 => (some t12)))) = some r := h; clear h; replace H := zAF H; obtain ⟨⟨t10, t13, t14⟩, A30, H⟩ := H; replace H : ((impl_Mix_feed.f k t10 t13 t14 a1).bind fun bt11 => ((impl_Mix_end.f bt11.1 bt11.2.1 bt11.2.2).bind fun t12 => (some t12))) = some r := H; have A3 := zA A30; clear A30; replace H := zAF H; obtain ⟨⟨t11, t15, t16⟩, A40, H⟩ := H; replace H : ((impl_Mix_end.f t11 t15 t16).bind fun t12 => (some t12)) = some r := H; have A4 := zA A40; clear A40; replace H := zAF H; obtain ⟨t12, A50, H⟩ := H; replace H : (some t12) = some r := H; have A5 := zA A50; clear A50; obtain rfl := yM H; go_enter Try.func179, Try.ntmps179; go_wp2_with (first | ((with_reducible refine yB (f := 211) rfl ?_); refine goesL_ (some 6) rfl rfl Try.func211 (by kernel_rfl) rfl #[.int .u8 a0] rfl (by (try simp only [zAA, zAB, zAC]); first | done | rfl) ?_; (with_reducible refine (impl_newMix.calls a0 t10 t13 t14 _ A3.out).mono ?_); rintro e w6 ⟨rfl, hb⟩; refine ⟨_, rfl, ?_⟩; have n0_ := zA (zAD (by (with_reducible repeat first | exact HB.out | apply zH | apply zF | apply zG) <;> exact HB.out) hb); clear HB; have HB := n0_; clear n0_; (try clear hb)) | ((with_reducible refine yB (f := 212) rfl ?_); refine goesL_ (some 8) rfl rfl Try.func212 (by kernel_rfl) rfl #[.agg #[.int .i64 t10, .int .i64 t13, .int .i64 t14], .string a1] rfl (by (try simp only [zAA, zAB, zAC]); first | done | rfl) ?_; (with_reducible refine (impl_Mix_feed.calls k t10 t13 t14 a1 t11 t15 t16 _ A4.out).mono ?_); rintro e w7 ⟨rfl, hb⟩; refine ⟨_, rfl, ?_⟩; have n0_ := zA (zAD (by (with_reducible repeat first | exact HB.out | apply zH | apply zF | apply zG) <;> exact HB.out) hb); clear HB; have HB := n0_; clear n0_; (try clear hb)) | ((with_reducible refine yB (f := 213) rfl ?_); refine goesL_ (some 9) rfl rfl Try.func213 (by kernel_rfl) rfl #[.agg #[.int .i64 t11, .int .i64 t15, .int .i64 t16]] rfl (by (try simp only [zAA, zAB, zAC]); first | done | rfl) ?_; (with_reducible refine (impl_Mix_end.calls t11 t15 t16 t12 _ A5.out).mono ?_); rintro e w8 ⟨rfl, hb⟩; refine ⟨_, rfl, ?_⟩; have n0_ := zA (zAD (by (with_reducible repeat first | exact HB.out | apply zH | apply zF | apply zG) <;> exact HB.out) hb); clear HB; have HB := n0_; clear n0_; (try clear hb))); go_ret; exact ⟨by first | rfl | (simp <;> rfl) | (simp [*] <;> rfl), by (with_reducible repeat first | exact HB.out | apply zH | apply zF | apply zG) <;> exact HB.out⟩
def impl_parts.l0 : Nat → ByteArray → List ByteArray → Int → Option (List ByteArray)
 | 0, _, _, _ => none
 | k + 1, x0, x3, x5 => if x5 < 11 then ((impl_oneByte.f x5).bind fun t10 => (if t10.size + x0.size ≤ 9223372036854775807 then ((impl_digest.f k 107 (t10 ++ x0)).bind fun t11 => (if x3.length < 8796093022208 then (impl_parts.l0 k x0 (x3 ++ [t11]) (wrap64 (x5 + 1))) else (none))) else (none))) else (some x3)
def impl_parts.f (k : Nat) (a0 : ByteArray) : Option (List ByteArray) := impl_parts.l0 k a0 ([] : List ByteArray) 0
theorem impl_parts.calls (k : Nat) (a0 : ByteArray) (r : List ByteArray) (w : World) (h : impl_parts.f k a0 = some r) :
  Calls Try.prog 163 #[.string a0] w fun e w' => ∃ v0_ : Value, e = .returned (v0_) ∧ Kd.R Kd.string 9 w' w.heap.size (fun _ => True) v0_ r ∧ Below w.heap.size w w' := by
 have HB := zA (Below.refl w.heap.size w); have H : (impl_parts.l0 k a0 ([] : List ByteArray) 0) = some r := h; clear h; have H' := zA H; clear H; go_enter Try.func163, Try.ntmps163; go_wp2; go_loopg [3, 5] k (fun kq v3 v5 w' => ∃ (x3_1 : List ByteArray) (x5_1 : Int), v5 = .int .i64 x5_1 ∧ Aside0 (impl_parts.l0 kq a0 x3_1 x5_1 = some r) ∧ Aside0 (kq ≤ k) ∧ Aside0 (Kd.R Kd.string 9 w' w.heap.size (fun _ => True) v3 x3_1) ∧ Aside0 (Below w.heap.size w w'))
 case atStart => exact ⟨(([] : List ByteArray)), (0), (by first | rfl | (simp; done) | (simp [*]; done) | (simp [bne]; done)), H', ⟨Nat.le_refl _⟩, ⟨by first | exact Kd.R_nil _ _ _ _ _ | exact Kd.N_nil _ _ _ _ _ | exact Kd.V_nil _ _ _ _ _ | exact Kd.Q_nil _ _ _ _ _ | exact Kd.S_nil _ _ _ _ _⟩, ⟨by (with_reducible repeat first | exact HB.out | apply zH | apply zF | apply zG) <;> exact HB.out⟩⟩
 case round =>
  clear H'
  try clear c1
  obtain ⟨x3_1, x5_1, rfl, HA, HK1, HO_3, HB⟩ := hrel
  cases gk with
  | zero => exact absurd HA.out (by simp [impl_parts.l0])
  | succ k1 =>
   have H := HA.out; clear HA; simp only [impl_parts.l0] at H
   by_cases c2 : x5_1 < 11
   ·rw [if_pos c2] at H
    have c2b0 : decide (x5_1 < 11) = true := zX c2; clear c2; replace H := zAF H; obtain ⟨t10, A30, H⟩ := H; replace H : (if t10.size + a0.size ≤ 9223372036854775807 then ((impl_digest.f k1 107 (t10 ++ a0)).bind fun t11 => (if x3_1.length < 8796093022208 then (impl_parts.l0 k1 a0 (x3_1 ++ [t11]) (wrap64 (x5_1 + 1))) else (none))) else (none)) = some r := H; have A3 := zA A30; clear A30
    by_cases c4 : t10.size + a0.size ≤ 9223372036854775807
    ·rw [if_pos c4] at H
     have c4b0 := eq_true c4; have c4b1 : decide (t10.size + a0.size ≤ 9223372036854775807) = true := zX c4
     try have c4b2 : (9223372036854775807 < t10.size + a0.size) = False := eq_false (Nat.not_lt.2 c4)
     replace H := zAF H; obtain ⟨t11, A50, H⟩ := H; replace H : (if x3_1.length < 8796093022208 then (impl_parts.l0 k1 a0 (x3_1 ++ [t11]) (wrap64 (x5_1 + 1))) else (none)) = some r := H; have A5 := zA A50; clear A50
     by_cases c6 : x3_1.length < 8796093022208
     ·rw [if_pos c6] at H
      have LMc6 := zA c6; clear c6; obtain ⟨y12, hy12⟩ : ∃ y_ : List ByteArray, y_ = (x3_1 ++ [t11]) := ⟨_, rfl⟩; replace H : (impl_parts.l0 k1 a0 y12 (wrap64 (x5_1 + 1))) = some r := by first | (rw [hy12]; with_reducible exact H) | (have H2_ := (Option.bind_some _ _).symm.trans H; rw [hy12]; with_reducible exact H2_) | (have H2_ := (Option.bind_some _ _).symm.trans H; with_reducible exact H2_) | with_reducible exact H | (rw [hy12]; exact H) | exact H
      have Ny12 := zA hy12; clear hy12; have H' := zA H; clear H; go_wp2_with (first | ((with_reducible refine yB (f := 151) rfl ?_); refine goesL_ (some 10) rfl rfl Try.func151 (by kernel_rfl) rfl #[.int .i64 x5_1] rfl (by (try simp only [zAA, zAB, zAC]); first | done | rfl) ?_; (with_reducible refine (impl_oneByte.calls x5_1 t10 _ A3.out).mono ?_); rintro e w7 ⟨rfl, hb⟩; refine ⟨_, rfl, ?_⟩; have n0_ := zA (Kd.R_below (by (with_reducible repeat first | apply zQ | apply zR | apply zS); exact HO_3.out) hb); have n1_ := zA (zAD (by (with_reducible repeat first | exact HB.out | apply zH | apply zF | apply zG) <;> exact HB.out) hb); clear HO_3; clear HB; have HO_3 := n0_; have HB := n1_; clear n0_ n1_; (try clear hb)) | ((with_reducible refine yB (f := 179) rfl ?_); refine goesL_ (some 13) rfl rfl Try.func179 (by kernel_rfl) rfl #[.int .u8 107, .string (t10 ++ a0)] rfl (by (try simp only [zAA, zAB, zAC]); first | done | rfl) ?_; (with_reducible refine (impl_digest.calls k1 107 (t10 ++ a0) t11 _ A5.out).mono ?_); rintro e w8 ⟨rfl, hb⟩; refine ⟨_, rfl, ?_⟩; have n0_ := zA (Kd.R_below (by (with_reducible repeat first | apply zQ | apply zR | apply zS); exact HO_3.out) hb); have n1_ := zA (zAD (by (with_reducible repeat first | exact HB.out | apply zH | apply zF | apply zG) <;> exact HB.out) hb); clear HO_3; clear HB; have HO_3 := n0_; have HB := n1_; clear n0_ n1_; (try clear hb)) | ((with_reducible refine gate_builtin (b := .append) (xs := #[.tmp 8, .tmp 14]) rfl ?_); at_builtin; refine Kd.R_append Kd.string (w0 := w) w.heap.size rfl (.tmp 8) (.tmp 14) 36 9 (.string ⟨#[]⟩) 16 rfl Try.underlying36 info9 rfl (by decide) (by omega) u3 x3_1 t11 [.string t11] (fun _ => True) (fun _ => False) rfl rfl ?aP (fun _ hk => hk.elim) ?aF ?aO ?aB ?aS ?aL ?_; (case aP => exact rfl); (case aB => exact (by (with_reducible repeat first | exact HB.out | apply zH | apply zF | apply zG) <;> exact HB.out)); (case aF => exact (fun _ _ => trivial)); (case aO => exact (by (with_reducible repeat first | apply zQ | apply zR | apply zS); exact HO_3.out)); (case aS => exact (zAE (by (with_reducible repeat first | exact HB.out | apply zH | apply zF | apply zG) <;> exact HB.out))); (case aL => have := LMc6.out; omega); intro v13 w9 ho hb hg hat; rw [← Ny12.out] at ho; have n0_ := zA (hb); have n1_ := zA (ho); clear HB; clear HO_3; have HB := n0_; have HO14 := n1_; clear n0_ n1_; clear ho hb hg hat)); go_roundg k1
      case measure => have := HK1.out; omega
      case rel => exact ⟨(y12), (wrap64 (x5_1 + 1)), (by first | rfl | (simp; done) | (simp [*]; done) | (simp [bne]; done)), H', ⟨by have := HK1.out; omega⟩, ⟨by (with_reducible repeat first | apply zQ | apply zR | apply zS); exact HO14.out⟩, ⟨by (with_reducible repeat first | exact HB.out | apply zH | apply zF | apply zG) <;> exact HB.out⟩⟩
     ·rw [if_neg c6] at H
      exact absurd H (by simp)
    ·rw [if_neg c4] at H
     exact absurd H (by simp)
   ·rw [if_neg c2] at H
    have c2b0 : decide (x5_1 < 11) = false := decide_eq_false c2; clear c2; obtain rfl := yM H; go_wp2; go_ret; exact ⟨_, by first | rfl | (simp <;> rfl) | (simp [*] <;> rfl), by (with_reducible repeat first | apply zQ | apply zR | apply zS); exact HO_3.out, by (with_reducible repeat first | exact HB.out | apply zH | apply zF | apply zG) <;> exact HB.out⟩
def impl_chain.l0 : Nat → ByteArray → Int → Int → Int → Option (ByteArray)
 | 0, _, _, _, _ => none
 | k + 1, x0, x1, x2, x7 => if x7 < (wrap64 (x1 + x2)) then ((impl_oneByte.f x7).bind fun t10 => (if t10.size + x0.size ≤ 9223372036854775807 then ((impl_digest.f k 99 (t10 ++ x0)).bind fun t11 => (impl_chain.l0 k t11 x1 x2 (wrap64 (x7 + 1)))) else (none))) else (some x0)
def impl_chain.f (k : Nat) (a0 : ByteArray) (a1 : Int) (a2 : Int) : Option (ByteArray) := impl_chain.l0 k a0 a1 a2 a1
theorem impl_chain.calls (k : Nat) (a0 : ByteArray) (a1 : Int) (a2 : Int) (r : ByteArray) (w : World) (h : impl_chain.f k a0 a1 a2 = some r) :
  Calls Try.prog 165 #[.string a0, .int .i64 a1, .int .i64 a2] w fun e w' => e = .returned (.string r) ∧ Below w.heap.size w w' := by
 have HB := zA (Below.refl w.heap.size w); have H : (impl_chain.l0 k a0 a1 a2 a1) = some r := h; clear h; have H' := zA H; clear H; go_enter Try.func165, Try.ntmps165; go_wp2; go_loopg [0, 7] k (fun kq v0 v7 w' => ∃ (x0_1 : ByteArray) (x7_1 : Int), v0 = .string x0_1 ∧ v7 = .int .i64 x7_1 ∧ Aside0 (impl_chain.l0 kq x0_1 a1 a2 x7_1 = some r) ∧ Aside0 (kq ≤ k) ∧ Aside0 (Below w.heap.size w w'))
 case atStart => exact ⟨(a0), (a1), (by first | rfl | (simp; done) | (simp [*]; done) | (simp [bne]; done)), (by first | rfl | (simp; done) | (simp [*]; done) | (simp [bne]; done)), H', ⟨Nat.le_refl _⟩, ⟨by (with_reducible repeat first | exact HB.out | apply zH | apply zF | apply zG) <;> exact HB.out⟩⟩
 case round =>
  clear H'
  try clear c1
  try clear p2
  obtain ⟨x0_1, x7_1, rfl, rfl, HA, HK1, HB⟩ := hrel
  cases gk with
  | zero => exact absurd HA.out (by simp [impl_chain.l0])
  | succ k1 =>
   have H := HA.out; clear HA; simp only [impl_chain.l0] at H
   by_cases c4 : x7_1 < (wrap64 (a1 + a2))
   ·rw [if_pos c4] at H
    have c4b0 : decide (x7_1 < (wrap64 (a1 + a2))) = true := zX c4; clear c4; replace H := zAF H; obtain ⟨t10, A50, H⟩ := H; replace H : (if t10.size + x0_1.size ≤ 9223372036854775807 then ((impl_digest.f k1 99 (t10 ++ x0_1)).bind fun t11 => (impl_chain.l0 k1 t11 a1 a2 (wrap64 (x7_1 + 1)))) else (none)) = some r := H; have A5 := zA A50; clear A50
    by_cases c6 : t10.size + x0_1.size ≤ 9223372036854775807
    ·rw [if_pos c6] at H
     have c6b0 := eq_true c6; have c6b1 : decide (t10.size + x0_1.size ≤ 9223372036854775807) = true := zX c6
     try have c6b2 : (9223372036854775807 < t10.size + x0_1.size) = False := eq_false (Nat.not_lt.2 c6)
     replace H := zAF H; obtain ⟨t11, A70, H⟩ := H; replace H : (impl_chain.l0 k1 t11 a1 a2 (wrap64 (x7_1 + 1))) = some r := H; have A7 := zA A70; clear A70; have H' := zA H; clear H; go_wp2_with (first | ((with_reducible refine yB (f := 151) rfl ?_); refine goesL_ (some 17) rfl rfl Try.func151 (by kernel_rfl) rfl #[.int .i64 x7_1] rfl (by (try simp only [zAA, zAB, zAC]); first | done | rfl) ?_; (with_reducible refine (impl_oneByte.calls x7_1 t10 _ A5.out).mono ?_); rintro e w8 ⟨rfl, hb⟩; refine ⟨_, rfl, ?_⟩; have n0_ := zA (zAD (by (with_reducible repeat first | exact HB.out | apply zH | apply zF | apply zG) <;> exact HB.out) hb); clear HB; have HB := n0_; clear n0_; (try clear hb)) | ((with_reducible refine yB (f := 179) rfl ?_); refine goesL_ (some 20) rfl rfl Try.func179 (by kernel_rfl) rfl #[.int .u8 99, .string (t10 ++ x0_1)] rfl (by (try simp only [zAA, zAB, zAC]); first | done | rfl) ?_; (with_reducible refine (impl_digest.calls k1 99 (t10 ++ x0_1) t11 _ A7.out).mono ?_); rintro e w9 ⟨rfl, hb⟩; refine ⟨_, rfl, ?_⟩; have n0_ := zA (zAD (by (with_reducible repeat first | exact HB.out | apply zH | apply zF | apply zG) <;> exact HB.out) hb); clear HB; have HB := n0_; clear n0_; (try clear hb))); go_roundg k1
     case measure => have := HK1.out; omega
     case rel => exact ⟨(t11), (wrap64 (x7_1 + 1)), (by first | rfl | (simp; done) | (simp [*]; done) | (simp [bne]; done)), (by first | rfl | (simp; done) | (simp [*]; done) | (simp [bne]; done)), H', ⟨by have := HK1.out; omega⟩, ⟨by (with_reducible repeat first | exact HB.out | apply zH | apply zF | apply zG) <;> exact HB.out⟩⟩
    ·rw [if_neg c6] at H
     exact absurd H (by simp)
   ·rw [if_neg c4] at H
    have c4b0 : decide (x7_1 < (wrap64 (a1 + a2))) = false := decide_eq_false c4; clear c4; obtain rfl := yM H; go_wp2; go_ret; exact ⟨by first | rfl | (simp <;> rfl) | (simp [*] <;> rfl), by (with_reducible repeat first | exact HB.out | apply zH | apply zF | apply zG) <;> exact HB.out⟩
def impl_public.l0 : Nat → ByteArray → List ByteArray → Int → Int → Option (ByteArray)
 | 0, _, _, _, _ => none
 | k + 1, x3, x7, x8, x9 => if x9 < x8 then (if 0 ≤ x9 then (if x9 < (x7.length : Int) then ((impl_chain.f k (rdOf ByteArray.empty x7 x9) 0 15).bind fun t10 => (if x3.size + t10.size ≤ 9223372036854775807 then (impl_public.l0 k (x3 ++ t10) x7 x8 (wrap64 (x9 + 1))) else (none))) else (none)) else (none)) else ((impl_digest.f k 112 x3).bind fun t11 => (some t11))
def impl_public.f (k : Nat) (a0 : ByteArray) : Option (ByteArray) := (impl_parts.f k a0).bind fun t10 => (impl_public.l0 k (⟨#[]⟩ : ByteArray) t10 (t10.length : Int) 0)
theorem impl_public.calls (k : Nat) (a0 : ByteArray) (r : ByteArray) (w : World) (h : impl_public.f k a0 = some r) :
  Calls Try.prog 161 #[.string a0] w fun e w' => e = .returned (.string r) ∧ Below w.heap.size w w' := by
 have HB := zA (Below.refl w.heap.size w); have H : ((impl_parts.f k a0).bind fun t13 => (impl_public.l0 k (⟨#[]⟩ : ByteArray) t13 (t13.length : Int) 0)) = some r := h; clear h; replace H := zAF H; obtain ⟨t13, A20, H⟩ := H; replace H : (impl_public.l0 k (⟨#[]⟩ : ByteArray) t13 (t13.length : Int) 0) = some r := H; have A2 := zA A20; clear A20; have H' := zA H; clear H; go_enter Try.func161, Try.ntmps161; go_wp2_with (first | ((with_reducible refine yB (f := 163) rfl ?_); refine goesL_ (some 7) rfl rfl Try.func163 (by kernel_rfl) rfl #[.string a0] rfl (by (try simp only [zAA, zAB, zAC]); first | done | rfl) ?_; (with_reducible refine (impl_parts.calls k a0 t13 _ A2.out).mono ?_); rintro e w3 ⟨v14, rfl, ho0, hb⟩; refine ⟨_, rfl, ?_⟩; have n0_ := zA (Kd.R_lower ho0 (zAE (by (with_reducible repeat first | exact HB.out | apply zH | apply zF | apply zG) <;> exact HB.out))); have n1_ := zA (zAD (by (with_reducible repeat first | exact HB.out | apply zH | apply zF | apply zG) <;> exact HB.out) hb); clear HB; have HO15 := n0_; have HB := n1_; clear n0_ n1_; (try clear hb); (try clear ho0); obtain ⟨Ao4, co4, eo4⟩ := Kd.R_slice HO15.out; subst eo4)); go_loopg [3, 9] k (fun kq v3 v9 w' => ∃ (x3_1 : ByteArray) (x9_1 : Int), v3 = .string x3_1 ∧ v9 = .int .i64 x9_1 ∧ Aside0 (impl_public.l0 kq x3_1 t13 (t13.length : Int) x9_1 = some r) ∧ Aside0 (kq ≤ k) ∧ Aside0 (Kd.R Kd.string 9 w' w.heap.size (fun _ => True) (.slice Ao4 t13.length co4) t13) ∧ Aside0 (Below w.heap.size w w'))
 case atStart => exact ⟨((⟨#[]⟩ : ByteArray)), (0), (by first | rfl | (simp; done) | (simp [*]; done) | (simp [bne]; done)), (by first | rfl | (simp; done) | (simp [*]; done) | (simp [bne]; done)), H', ⟨Nat.le_refl _⟩, ⟨by (with_reducible repeat first | apply zQ | apply zR | apply zS); exact HO15.out⟩, ⟨by (with_reducible repeat first | exact HB.out | apply zH | apply zF | apply zG) <;> exact HB.out⟩⟩
 case round =>
  clear H'
  try clear c1
  try clear p2
  obtain ⟨x3_1, x9_1, rfl, rfl, HA, HK1, HO_7, HB⟩ := hrel
  cases gk with
  | zero => exact absurd HA.out (by simp [impl_public.l0])
  | succ k1 =>
   have H := HA.out; clear HA; simp only [impl_public.l0] at H
   by_cases c5 : x9_1 < (t13.length : Int)
   ·rw [if_pos c5] at H
    have c5b0 : decide (x9_1 < (t13.length : Int)) = true := zX c5; clear c5
    by_cases c6 : 0 ≤ x9_1
    ·rw [if_pos c6] at H
     have c6b0 : decide (0 ≤ x9_1) = true := zX c6; clear c6
     by_cases c7 : x9_1 < (t13.length : Int)
     ·rw [if_pos c7] at H
      have c7b0 : decide (x9_1 < (t13.length : Int)) = true := zX c7; clear c7; replace H := zAF H; obtain ⟨t16, A80, H⟩ := H; replace H : (if x3_1.size + t16.size ≤ 9223372036854775807 then (impl_public.l0 k1 (x3_1 ++ t16) t13 (t13.length : Int) (wrap64 (x9_1 + 1))) else (none)) = some r := H; have A8 := zA A80; clear A80
      by_cases c9 : x3_1.size + t16.size ≤ 9223372036854775807
      ·rw [if_pos c9] at H
       have c9b0 := eq_true c9; have c9b1 : decide (x3_1.size + t16.size ≤ 9223372036854775807) = true := zX c9
       try have c9b2 : (9223372036854775807 < x3_1.size + t16.size) = False := eq_false (Nat.not_lt.2 c9)
       have H' := zA H; clear H; have p17 : 0 ≤ (x9_1 : Int) := zW (by first | (with_reducible assumption) | assumption); have q17 : x9_1 < (t13.length : Int) := zW (by first | (with_reducible assumption) | assumption); obtain ⟨ad17, e17, hx17_0⟩ := Kd.at_string (yD HO_7.out).2.2 x9_1 p17 q17
       cases e17
       replace p17 := eq_true p17; replace q17 := eq_true q17; go_wp2_with (first | ((with_reducible refine yB (f := 165) rfl ?_); refine goesL_ (some 15) rfl rfl Try.func165 (by kernel_rfl) rfl #[.string (rdOf ByteArray.empty t13 x9_1), .int .i64 0, .int .i64 15] rfl (by (try simp only [zAA, zAB, zAC]); first | done | rfl) ?_; (with_reducible refine (impl_chain.calls k1 (rdOf ByteArray.empty t13 x9_1) 0 15 t16 _ A8.out).mono ?_); rintro e w10 ⟨rfl, hb⟩; refine ⟨_, rfl, ?_⟩; have n0_ := zA (Kd.R_below (by (with_reducible repeat first | apply zQ | apply zR | apply zS); exact HO_7.out) hb); have n1_ := zA (zAD (by (with_reducible repeat first | exact HB.out | apply zH | apply zF | apply zG) <;> exact HB.out) hb); clear HO_7; clear HB; have HO_7 := n0_; have HB := n1_; clear n0_ n1_; (try clear hb))); go_roundg k1
       case measure => have := HK1.out; omega
       case rel => exact ⟨(x3_1 ++ t16), (wrap64 (x9_1 + 1)), (by first | rfl | (simp; done) | (simp [*]; done) | (simp [bne]; done)), (by first | rfl | (simp; done) | (simp [*]; done) | (simp [bne]; done)), H', ⟨by have := HK1.out; omega⟩, ⟨by (with_reducible repeat first | apply zQ | apply zR | apply zS); exact HO_7.out⟩, ⟨by (with_reducible repeat first | exact HB.out | apply zH | apply zF | apply zG) <;> exact HB.out⟩⟩
      ·rw [if_neg c9] at H
       exact absurd H (by simp)
     ·rw [if_neg c7] at H
      exact absurd H (by simp)
    ·rw [if_neg c6] at H
     exact absurd H (by simp)
   ·rw [if_neg c5] at H
    have c5b0 : decide (x9_1 < (t13.length : Int)) = false := decide_eq_false c5; clear c5; replace H := zAF H; obtain ⟨t18, A19, H⟩ := H; replace H : (some t18) = some r := H; have A11 := zA A19; clear A19; obtain rfl := yM H; go_wp2_with (first | ((with_reducible refine yB (f := 179) rfl ?_); refine goesL_ (some 19) rfl rfl Try.func179 (by kernel_rfl) rfl #[.int .u8 112, .string x3_1] rfl (by (try simp only [zAA, zAB, zAC]); first | done | rfl) ?_; (with_reducible refine (impl_digest.calls k1 112 x3_1 t18 _ A11.out).mono ?_); rintro e w12 ⟨rfl, hb⟩; refine ⟨_, rfl, ?_⟩; have n0_ := zA (Kd.R_below (by (with_reducible repeat first | apply zQ | apply zR | apply zS); exact HO_7.out) hb); have n1_ := zA (zAD (by (with_reducible repeat first | exact HB.out | apply zH | apply zF | apply zG) <;> exact HB.out) hb); clear HO_7; clear HB; have HO_7 := n0_; have HB := n1_; clear n0_ n1_; (try clear hb))); go_ret; exact ⟨by first | rfl | (simp <;> rfl) | (simp [*] <;> rfl), by (with_reducible repeat first | exact HB.out | apply zH | apply zF | apply zG) <;> exact HB.out⟩
def impl_pair.f (k : Nat) (a0 : ByteArray) (a1 : ByteArray) : Option (ByteArray) := if a0.size + a1.size ≤ 9223372036854775807 then ((impl_digest.f k 116 (a0 ++ a1)).bind fun t10 => (some t10)) else (none)
theorem impl_pair.calls (k : Nat) (a0 : ByteArray) (a1 : ByteArray) (r : ByteArray) (w : World) (h : impl_pair.f k a0 a1 = some r) :
  Calls Try.prog 162 #[.string a0, .string a1] w fun e w' => e = .returned (.string r) ∧ Below w.heap.size w w' := by
 have HB := zA (Below.refl w.heap.size w); have H : (if a0.size + a1.size ≤ 9223372036854775807 then ((impl_digest.f k 116 (a0 ++ a1)).bind fun t10 => (some t10)) else (none)) = some r := h; clear h
 by_cases c3 : a0.size + a1.size ≤ 9223372036854775807
 ·rw [if_pos c3] at H
  have c3b0 := eq_true c3; have c3b1 : decide (a0.size + a1.size ≤ 9223372036854775807) = true := zX c3
  try have c3b2 : (9223372036854775807 < a0.size + a1.size) = False := eq_false (Nat.not_lt.2 c3)
  replace H := zAF H; obtain ⟨t10, A40, H⟩ := H; replace H : (some t10) = some r := H; have A4 := zA A40; clear A40; obtain rfl := yM H; go_enter Try.func162, Try.ntmps162; go_wp2_with (first | ((with_reducible refine yB (f := 179) rfl ?_); refine goesL_ (some 8) rfl rfl Try.func179 (by kernel_rfl) rfl #[.int .u8 116, .string (a0 ++ a1)] rfl (by (try simp only [zAA, zAB, zAC]); first | done | rfl) ?_; (with_reducible refine (impl_digest.calls k 116 (a0 ++ a1) t10 _ A4.out).mono ?_); rintro e w5 ⟨rfl, hb⟩; refine ⟨_, rfl, ?_⟩; have n0_ := zA (zAD (by (with_reducible repeat first | exact HB.out | apply zH | apply zF | apply zG) <;> exact HB.out) hb); clear HB; have HB := n0_; clear n0_; (try clear hb))); go_ret; exact ⟨by first | rfl | (simp <;> rfl) | (simp [*] <;> rfl), by (with_reducible repeat first | exact HB.out | apply zH | apply zF | apply zG) <;> exact HB.out⟩
 ·rw [if_neg c3] at H
  exact absurd H (by simp)
mutual
def impl_way.l0 : Nat → ByteArray → Int → List ByteArray → Int → Option (List ByteArray × ByteArray)
 | 0, _, _, _, _ => none
 | k + 1, x0, x1, x6, x11 => if x11 < 8 then ((impl_seedOf.f x0 x11).bind fun t12 => ((impl_public.f k t12).bind fun t13 => (if x6.length < 8796093022208 then (impl_way.l0 k x0 x1 (x6 ++ [t13]) (wrap64 (x11 + 1))) else (none)))) else (impl_way.l1 k x1 x6 ([] : List ByteArray))
def impl_way.l1 : Nat → Int → List ByteArray → List ByteArray → Option (List ByteArray × ByteArray)
 | 0, _, _, _ => none
 | k + 1, x1, x6, x8 => if (x6.length : Int) > 1 then (if 0 ≤ (Go.bits .xor .i64 x1 1) then (if (Go.bits .xor .i64 x1 1) < (x6.length : Int) then (if x8.length < 8796093022208 then (impl_way.l2 k (wrap64 (Int.tdiv x1 2)) x6 (x8 ++ [rdOf ByteArray.empty x6 (Go.bits .xor .i64 x1 1)]) ([] : List ByteArray) 0) else (none)) else (none)) else (none)) else (if 0 < (x6.length : Int) then (some (x8, rdOf ByteArray.empty x6 0)) else (none))
def impl_way.l2 : Nat → Int → List ByteArray → List ByteArray → List ByteArray → Int → Option (List ByteArray × ByteArray)
 | 0, _, _, _, _, _ => none
 | k + 1, x1, x6, x8, x9, x10 => if x10 < (x6.length : Int) then (if 0 ≤ x10 then (if 0 ≤ (wrap64 (x10 + 1)) then (if (wrap64 (x10 + 1)) < (x6.length : Int) then ((impl_pair.f k (rdOf ByteArray.empty x6 x10) (rdOf ByteArray.empty x6 (wrap64 (x10 + 1)))).bind fun t14 => (if x9.length < 8796093022208 then (impl_way.l2 k x1 x6 x8 (x9 ++ [t14]) (wrap64 (x10 + 2))) else (none))) else (none)) else (none)) else (none)) else (impl_way.l1 k x1 x9 x8)
end
def impl_way.f (k : Nat) (a0 : ByteArray) (a1 : Int) : Option (List ByteArray × ByteArray) := impl_way.l0 k a0 a1 ([] : List ByteArray) 0
def impl_way.T15 : Bool × List (List Nat × List Nat) := (true, [([], []), ([], []), ([], []), ([1, 2], [1, 2]), ([3], [3]), ([], []), ([], []), ([6], [6]), ([5, 7], [5, 7]), ([8], [8]), ([4, 9], [4, 9]), ([10], [10]), ([0, 11, 10], [0, 11]), ([12, 12, 0, 1, 2, 3, 4, 5, 6, 7, 8, 9, 10, 11, 12], [0, 12])])
def impl_way.B15 : List Nat := [0, 0, 0, 6, 14, 0, 0, 64, 224, 480, 1022, 2046, 4095, 8191]
theorem impl_way.tab15 : rtab .any (opsOf Try.f84 15) = impl_way.T15 := by kernel_rfl
theorem impl_way.bits15 : waitsOk impl_way.T15.2 impl_way.B15 = true := by kernel_rfl
theorem impl_way.calls (k : Nat) (a0 : ByteArray) (a1 : Int) (r1 : List ByteArray) (r2 : ByteArray) (w : World) (h : impl_way.f k a0 a1 = some (r1, r2)) :
  Calls Try.prog 84 #[.string a0, .int .i64 a1] w fun e w' => ∃ v0_ : Value, e = .returned (.tuple #[v0_, .string r2]) ∧ Kd.R Kd.string 9 w' w.heap.size (fun _ => True) v0_ r1 ∧ Below w.heap.size w w' := by
 have HB := zA (Below.refl w.heap.size w); have H : (impl_way.l0 k a0 a1 ([] : List ByteArray) 0) = some (r1, r2) := h; clear h; have H' := zA H; clear H; go_enter Try.func84, Try.ntmps84; go_wp2; go_loopg [6, 11] k (fun kq v6 v11 w' => ∃ (x6_1 : List ByteArray) (x11_1 : Int), v11 = .int .i64 x11_1 ∧ Aside0 (impl_way.l0 kq a0 a1 x6_1 x11_1 = some (r1, r2)) ∧ Aside0 (kq ≤ k) ∧ Aside0 (Kd.R Kd.string 9 w' w.heap.size (fun _ => True) v6 x6_1) ∧ Aside0 (Below w.heap.size w w'))
 case atStart => exact ⟨(([] : List ByteArray)), (0), (by first | rfl | (simp; done) | (simp [*]; done) | (simp [bne]; done)), H', ⟨Nat.le_refl _⟩, ⟨by first | exact Kd.R_nil _ _ _ _ _ | exact Kd.N_nil _ _ _ _ _ | exact Kd.V_nil _ _ _ _ _ | exact Kd.Q_nil _ _ _ _ _ | exact Kd.S_nil _ _ _ _ _⟩, ⟨by (with_reducible repeat first | exact HB.out | apply zH | apply zF | apply zG) <;> exact HB.out⟩⟩
 case round =>
  clear H'
  try clear p2
  obtain ⟨x6_1, x11_1, rfl, HA, HK1, HO_6, HB⟩ := hrel
  cases gk with
  | zero => exact absurd HA.out (by simp [impl_way.l0])
  | succ k1 =>
   have H := HA.out; clear HA; simp only [impl_way.l0] at H
   by_cases c3 : x11_1 < 8
   ·rw [if_pos c3] at H
    have c3b0 : decide (x11_1 < 8) = true := zX c3; clear c3; replace H := zAF H; obtain ⟨t29, A40, H⟩ := H; replace H : ((impl_public.f k1 t29).bind fun t30 => (if x6_1.length < 8796093022208 then (impl_way.l0 k1 a0 a1 (x6_1 ++ [t30]) (wrap64 (x11_1 + 1))) else (none))) = some (r1, r2) := H; have A4 := zA A40; clear A40; replace H := zAF H; obtain ⟨t30, A50, H⟩ := H; replace H : (if x6_1.length < 8796093022208 then (impl_way.l0 k1 a0 a1 (x6_1 ++ [t30]) (wrap64 (x11_1 + 1))) else (none)) = some (r1, r2) := H; have A5 := zA A50; clear A50
    by_cases c6 : x6_1.length < 8796093022208
    ·rw [if_pos c6] at H
     have LMc6 := zA c6; clear c6; obtain ⟨y31, hy31⟩ : ∃ y_ : List ByteArray, y_ = (x6_1 ++ [t30]) := ⟨_, rfl⟩; replace H : (impl_way.l0 k1 a0 a1 y31 (wrap64 (x11_1 + 1))) = some (r1, r2) := by first | (rw [hy31]; with_reducible exact H) | (have H2_ := (Option.bind_some _ _).symm.trans H; rw [hy31]; with_reducible exact H2_) | (have H2_ := (Option.bind_some _ _).symm.trans H; with_reducible exact H2_) | with_reducible exact H | (rw [hy31]; exact H) | exact H
     have Ny31 := zA hy31; clear hy31; have H' := zA H; clear H; go_wp2_with (first | ((with_reducible refine yB (f := 86) rfl ?_); refine goesL_ (some 17) rfl rfl Try.func86 (by kernel_rfl) rfl #[.string a0, .int .i64 x11_1] rfl (by (try simp only [zAA, zAB, zAC]); first | done | rfl) ?_; (with_reducible refine (impl_seedOf.calls a0 x11_1 t29 _ A4.out).mono ?_); rintro e w7 ⟨rfl, hb⟩; refine ⟨_, rfl, ?_⟩; have n0_ := zA (Kd.R_below (by (with_reducible repeat first | apply zQ | apply zR | apply zS); exact HO_6.out) hb); have n1_ := zA (zAD (by (with_reducible repeat first | exact HB.out | apply zH | apply zF | apply zG) <;> exact HB.out) hb); clear HO_6; clear HB; have HO_6 := n0_; have HB := n1_; clear n0_ n1_; (try clear hb)) | ((with_reducible refine yB (f := 161) rfl ?_); refine goesL_ (some 18) rfl rfl Try.func161 (by kernel_rfl) rfl #[.string t29] rfl (by (try simp only [zAA, zAB, zAC]); first | done | rfl) ?_; (with_reducible refine (impl_public.calls k1 t29 t30 _ A5.out).mono ?_); rintro e w8 ⟨rfl, hb⟩; refine ⟨_, rfl, ?_⟩; have n0_ := zA (Kd.R_below (by (with_reducible repeat first | apply zQ | apply zR | apply zS); exact HO_6.out) hb); have n1_ := zA (zAD (by (with_reducible repeat first | exact HB.out | apply zH | apply zF | apply zG) <;> exact HB.out) hb); clear HO_6; clear HB; have HO_6 := n0_; have HB := n1_; clear n0_ n1_; (try clear hb)) | ((with_reducible refine gate_builtin (b := .append) (xs := #[.tmp 14, .tmp 19]) rfl ?_); at_builtin; refine Kd.R_append Kd.string (w0 := w) w.heap.size rfl (.tmp 14) (.tmp 19) 36 9 (.string ⟨#[]⟩) 16 rfl Try.underlying36 info9 rfl (by decide) (by omega) u6 x6_1 t30 [.string t30] (fun _ => True) (fun _ => False) rfl rfl ?aP (fun _ hk => hk.elim) ?aF ?aO ?aB ?aS ?aL ?_; (case aP => exact rfl); (case aB => exact (by (with_reducible repeat first | exact HB.out | apply zH | apply zF | apply zG) <;> exact HB.out)); (case aF => exact (fun _ _ => trivial)); (case aO => exact (by (with_reducible repeat first | apply zQ | apply zR | apply zS); exact HO_6.out)); (case aS => exact (zAE (by (with_reducible repeat first | exact HB.out | apply zH | apply zF | apply zG) <;> exact HB.out))); (case aL => have := LMc6.out; omega); intro v33 w9 ho hb hg hat; rw [← Ny31.out] at ho; have n0_ := zA (hb); have n1_ := zA (ho); clear HB; clear HO_6; have HB := n0_; have HO34 := n1_; clear n0_ n1_; clear ho hb hg hat)); go_roundg k1
     case measure => have := HK1.out; omega
     case rel => exact ⟨(y31), (wrap64 (x11_1 + 1)), (by first | rfl | (simp; done) | (simp [*]; done) | (simp [bne]; done)), H', ⟨by have := HK1.out; omega⟩, ⟨by (with_reducible repeat first | apply zQ | apply zR | apply zS); exact HO34.out⟩, ⟨by (with_reducible repeat first | exact HB.out | apply zH | apply zF | apply zG) <;> exact HB.out⟩⟩
    ·rw [if_neg c6] at H
     exact absurd H (by simp)
   ·rw [if_neg c3] at H
    have c3b0 : decide (x11_1 < 8) = false := decide_eq_false c3; clear c3; have H' := zA H; clear H; go_wp2; go_loopg [1, 6, 8] k1 (fun kq v1 v6 v8 w' => ∃ (x1_2 : Int) (x6_2 : List ByteArray) (x8_2 : List ByteArray), v1 = .int .i64 x1_2 ∧ Aside0 (impl_way.l1 kq x1_2 x6_2 x8_2 = some (r1, r2)) ∧ Aside0 (kq ≤ k1) ∧ Aside0 (Kd.R Kd.string 9 w' w.heap.size (fun k_ => some k_ ≠ (v8 : Value).ownBlock) v6 x6_2) ∧ Aside0 (Kd.R Kd.string 9 w' w.heap.size (fun k_ => some k_ ≠ (v6 : Value).ownBlock) v8 x8_2) ∧ Aside0 (Below w.heap.size w w'))
    case atStart => exact ⟨(a1), (x6_1), (([] : List ByteArray)), (by first | rfl | (simp; done) | (simp [*]; done) | (simp [bne]; done)), H', ⟨Nat.le_refl _⟩, ⟨by (with_reducible repeat first | apply zQ | apply zR | apply zS); exact yC HO_6.out (fun _ hk => (by simp [Value.ownBlock]))⟩, ⟨by first | exact Kd.R_nil _ _ _ _ _ | exact Kd.N_nil _ _ _ _ _ | exact Kd.V_nil _ _ _ _ _ | exact Kd.Q_nil _ _ _ _ _ | exact Kd.S_nil _ _ _ _ _⟩, ⟨by (with_reducible repeat first | exact HB.out | apply zH | apply zF | apply zG) <;> exact HB.out⟩⟩
    case round =>
     clear H'
     try clear c1
     try clear p2
     try clear c3
     try clear c3b0
     try clear c6
     try clear p6
     try clear c8
     try clear p2
     obtain ⟨x1_2, x6_2, x8_2, rfl, HA, HK2, HO_6, HO_8, HB⟩ := hrel
     cases gk with
     | zero => exact absurd HA.out (by simp [impl_way.l1])
     | succ k2 =>
      have H := HA.out; clear HA; simp only [impl_way.l1] at H
      by_cases c10 : (x6_2.length : Int) > 1
      ·rw [if_pos c10] at H
       have c10b0 : decide (1 < (x6_2.length : Int)) = true := zX c10; have c10b1 : decide (1 < x6_2.length) = true := zX (by omega); clear c10
       by_cases c11 : 0 ≤ (Go.bits .xor .i64 x1_2 1)
       ·rw [if_pos c11] at H
        have c11b0 : decide (0 ≤ (Go.bits .xor .i64 x1_2 1)) = true := zX c11; clear c11
        by_cases c12 : (Go.bits .xor .i64 x1_2 1) < (x6_2.length : Int)
        ·rw [if_pos c12] at H
         have c12b0 : decide ((Go.bits .xor .i64 x1_2 1) < (x6_2.length : Int)) = true := zX c12; clear c12
         by_cases c13 : x8_2.length < 8796093022208
         ·rw [if_pos c13] at H
          have LMc13 := zA c13; clear c13; obtain ⟨y35, hy35⟩ : ∃ y_ : List ByteArray, y_ = (x8_2 ++ [rdOf ByteArray.empty x6_2 (Go.bits .xor .i64 x1_2 1)]) := ⟨_, rfl⟩; replace H : (impl_way.l2 k2 (wrap64 (Int.tdiv x1_2 2)) x6_2 y35 ([] : List ByteArray) 0) = some (r1, r2) := by first | (rw [hy35]; with_reducible exact H) | (have H2_ := (Option.bind_some _ _).symm.trans H; rw [hy35]; with_reducible exact H2_) | (have H2_ := (Option.bind_some _ _).symm.trans H; with_reducible exact H2_) | with_reducible exact H | (rw [hy35]; exact H) | exact H
          have Ny35 := zA hy35; clear hy35; have H' := zA H; clear H; obtain ⟨Ao14, co14, eo14⟩ := Kd.R_slice HO_6.out; subst eo14; have p36 : 0 ≤ ((Go.bits .xor .i64 x1_2 1) : Int) := zW (by first | (with_reducible assumption) | assumption); have q36 : (Go.bits .xor .i64 x1_2 1) < (x6_2.length : Int) := zW (by first | (with_reducible assumption) | assumption); obtain ⟨ad36, e36, hx36_0⟩ := Kd.at_string (yD HO_6.out).2.2 (Go.bits .xor .i64 x1_2 1) p36 q36
          cases e36
          replace p36 := eq_true p36; replace q36 := eq_true q36; go_wp2_with (first | ((with_reducible refine gate_builtin (b := .append) (xs := #[.tmp 25, .tmp 31]) rfl ?_); at_builtin; refine Kd.R_append Kd.string (w0 := w) w.heap.size rfl (.tmp 25) (.tmp 31) 36 9 (.string ⟨#[]⟩) 16 rfl Try.underlying36 info9 rfl (by decide) (by omega) u8 x8_2 (rdOf ByteArray.empty x6_2 (Go.bits .xor .i64 x1_2 1)) [.string (rdOf ByteArray.empty x6_2 (Go.bits .xor .i64 x1_2 1))] (fun k_ => some k_ ≠ (.slice (some ad36) x6_2.length co14 : Value).ownBlock) (fun _ => False) rfl rfl ?aP (fun _ hk => hk.elim) ?aF ?aO ?aB ?aS ?aL ?_; (case aP => exact rfl); (case aB => exact (by (with_reducible repeat first | exact HB.out | apply zH | apply zF | apply zG) <;> exact HB.out)); (case aF => exact (fun k_ hk => Kd.fresh' (Kd.R_lt (by (with_reducible repeat first | apply zQ | apply zR | apply zS); exact HO_6.out)) k_ hk)); (case aO => exact (by (with_reducible repeat first | apply zQ | apply zR | apply zS); exact HO_8.out)); (case aS => exact (zAE (by (with_reducible repeat first | exact HB.out | apply zH | apply zF | apply zG) <;> exact HB.out))); (case aL => have := LMc13.out; omega); intro v37 w15 ho hb hg hat; rw [← Ny35.out] at ho; have n0_ := zA (Kd.R_after (ok := (fun _ => True)) (by (with_reducible repeat first | apply zQ | apply zR | apply zS); exact yC HO_6.out (fun _ hk => ⟨trivial, hk⟩)) hg hat); have n1_ := zA (hb); have n2_ := zA (ho); clear HO_6; clear HB; clear HO_8; have HO_6 := n0_; have HB := n1_; have HO38 := n2_; clear n0_ n1_ n2_; clear ho hb hg hat)); go_loopg [9, 10] k2 (fun kq v9 v10 w' => ∃ (x9_3 : List ByteArray) (x10_3 : Int), v10 = .int .i64 x10_3 ∧ Aside0 (impl_way.l2 kq (wrap64 (Int.tdiv x1_2 2)) x6_2 y35 x9_3 x10_3 = some (r1, r2)) ∧ Aside0 (kq ≤ k2) ∧ Aside0 (Kd.R Kd.string 9 w' w.heap.size (fun k_ => some k_ ≠ (v37 : Value).ownBlock ∧ some k_ ≠ (v9 : Value).ownBlock) (.slice (some ad36) x6_2.length co14) x6_2) ∧ Aside0 (Kd.R Kd.string 9 w' w.heap.size (fun k_ => some k_ ≠ ((.slice (some ad36) x6_2.length co14) : Value).ownBlock ∧ some k_ ≠ (v9 : Value).ownBlock) v37 y35) ∧ Aside0 (Kd.R Kd.string 9 w' w.heap.size (fun k_ => some k_ ≠ ((.slice (some ad36) x6_2.length co14) : Value).ownBlock ∧ some k_ ≠ (v37 : Value).ownBlock) v9 x9_3) ∧ Aside0 (Below w.heap.size w w'))
          case atStart => exact ⟨(([] : List ByteArray)), (0), (by first | rfl | (simp; done) | (simp [*]; done) | (simp [bne]; done)), H', ⟨Nat.le_refl _⟩, ⟨by (with_reducible repeat first | apply zQ | apply zR | apply zS); exact yC HO_6.out (fun _ hk => ⟨hk.2, (by simp [Value.ownBlock])⟩)⟩, ⟨by (with_reducible repeat first | apply zQ | apply zR | apply zS); exact yC HO38.out (fun _ hk => ⟨hk, (by simp [Value.ownBlock])⟩)⟩, ⟨by first | exact Kd.R_nil _ _ _ _ _ | exact Kd.N_nil _ _ _ _ _ | exact Kd.V_nil _ _ _ _ _ | exact Kd.Q_nil _ _ _ _ _ | exact Kd.S_nil _ _ _ _ _⟩, ⟨by (with_reducible repeat first | exact HB.out | apply zH | apply zF | apply zG) <;> exact HB.out⟩⟩
          case round =>
           clear H'
           try clear c1
           try clear p2
           try clear q2
           try clear hx2
           try clear c3
           try clear c3b0
           try clear c6
           try clear p6
           try clear c8
           try clear c10
           try clear c10b0
           try clear c10b1
           try clear c11
           try clear c11b0
           try clear c12
           try clear c12b0
           try clear c13
           try clear hx36_0
           try clear p2
           try clear p36
           try clear p6
           try clear q36
           obtain ⟨x9_3, x10_3, rfl, HA, HK3, HO_6, HO_8, HO_9, HB⟩ := hrel
           cases gk with
           | zero => exact absurd HA.out (by simp [impl_way.l2])
           | succ k3 =>
            have H := HA.out; clear HA; simp only [impl_way.l2] at H
            by_cases c16 : x10_3 < (x6_2.length : Int)
            ·rw [if_pos c16] at H
             have c16b0 : decide (x10_3 < (x6_2.length : Int)) = true := zX c16; clear c16
             by_cases c17 : 0 ≤ x10_3
             ·rw [if_pos c17] at H
              have c17b0 : decide (0 ≤ x10_3) = true := zX c17; clear c17; obtain ⟨ji18, hji18⟩ : ∃ j_ : Int, (wrap64 (x10_3 + 1)) = j_ := ⟨_, rfl⟩; replace H : (if 0 ≤ (ji18) then (if (ji18) < (x6_2.length : Int) then ((impl_pair.f k3 (rdOf ByteArray.empty x6_2 x10_3) (rdOf ByteArray.empty x6_2 (ji18))).bind fun t39 => (if x9_3.length < 8796093022208 then (impl_way.l2 k3 (wrap64 (Int.tdiv x1_2 2)) x6_2 y35 (x9_3 ++ [t39]) (wrap64 (x10_3 + 2))) else (none))) else (none)) else (none)) = some (r1, r2) := by first | (rw [hji18] at H; exact H) | (simp only [hji18] at H ⊢; exact H)
              have hji18w : (IntKind.i64.wrap (x10_3 + 1)) = ji18 := (i64_w _).trans hji18
              by_cases c19 : 0 ≤ (ji18)
              ·rw [if_pos c19] at H
               have c19b0 : decide (0 ≤ (ji18)) = true := zX c19; clear c19
               by_cases c20 : (ji18) < (x6_2.length : Int)
               ·rw [if_pos c20] at H
                have c20b0 : decide ((ji18) < (x6_2.length : Int)) = true := zX c20; clear c20; replace H := zAF H; obtain ⟨t39, A41, H⟩ := H; replace H : (if x9_3.length < 8796093022208 then (impl_way.l2 k3 (wrap64 (Int.tdiv x1_2 2)) x6_2 y35 (x9_3 ++ [t39]) (wrap64 (x10_3 + 2))) else (none)) = some (r1, r2) := H; have A21 := zA A41; clear A41
                by_cases c22 : x9_3.length < 8796093022208
                ·rw [if_pos c22] at H
                 have LMc22 := zA c22; clear c22; obtain ⟨y42, hy42⟩ : ∃ y_ : List ByteArray, y_ = (x9_3 ++ [t39]) := ⟨_, rfl⟩; replace H : (impl_way.l2 k3 (wrap64 (Int.tdiv x1_2 2)) x6_2 y35 y42 (wrap64 (x10_3 + 2))) = some (r1, r2) := by first | (rw [hy42]; with_reducible exact H) | (have H2_ := (Option.bind_some _ _).symm.trans H; rw [hy42]; with_reducible exact H2_) | (have H2_ := (Option.bind_some _ _).symm.trans H; with_reducible exact H2_) | with_reducible exact H | (rw [hy42]; exact H) | exact H
                 have Ny42 := zA hy42; clear hy42; have H' := zA H; clear H
                 try go_wp2
                 have n0_ := zA (zS HO_6.out); have n1_ := zA (zS HO_8.out); have n2_ := zA (zS HO_9.out); have n3_ := zA (zG HB.out); clear HO_6 HO_8 HO_9 HB; have HO_6 := n0_; have HO_8 := n1_; have HO_9 := n2_; have HB := n3_; clear n0_ n1_ n2_ n3_; have p43 : 0 ≤ (x10_3 : Int) := zW (by first | (with_reducible assumption) | assumption); have q43 : x10_3 < (x6_2.length : Int) := zW (by first | (with_reducible assumption) | assumption); obtain ⟨ad43, e43, hx43_0⟩ := Kd.at_string (yD HO_6.out).2.2 x10_3 p43 q43; obtain rfl : ad36 = ad43 := (by injection e43); replace p43 := eq_true p43; replace q43 := eq_true q43; have p44 : 0 ≤ ((ji18) : Int) := zW (by first | (with_reducible assumption) | assumption); have q44 : (ji18) < (x6_2.length : Int) := zW (by first | (with_reducible assumption) | assumption); obtain ⟨ad44, e44, hx44_0⟩ := Kd.at_string (yD HO_6.out).2.2 (ji18) p44 q44; obtain rfl : ad36 = ad44 := (by injection e44); replace p44 := eq_true p44; replace q44 := eq_true q44; refine start_ (n := 14) (S := fun w' => w'.cell? (ad36.add (x10_3).toNat) = some (.string (rdOf ByteArray.empty x6_2 x10_3)) ∧ w'.cell? (ad36.add ((ji18)).toNat) = some (.string (rdOf ByteArray.empty x6_2 (ji18)))) (ds := [11, 12]) #[false, false, false, false, false, false, false, false, false, false, false, false, false, false] (by kernel_rfl) rfl rfl ⟨hx43_0, hx44_0⟩ (fun hHeld => ?_); refine with_tabW impl_way.tab15 impl_way.bits15 (fun HT_ HW_ => ?_); generalize wr.drew = w23 at HO_6 HO_8 HO_9 HB hx43_0 hx44_0 hHeld ⊢; refine pure_ (i := 0) (N := some 41) (v := ?_) (a' := ?_) #[true, false, false, false, false, false, false, false, false, false, false, false, false, false] rfl rfl (any_of HT_.out (by kernel_rfl)) (fun _ _ _ h => h) (Or.inl ⟨by rfl, ?_⟩) ?_ ?_; rotate_left
                 ·intro w'
                  go_simp
                  with_reducible rfl
                 rotate_left
                 ·simp only [Act.put, zC, zD, zE, i64_w]
                  rfl
                 refine pure_ (i := 1) (N := some 42) (v := ?_) (a' := ?_) #[true, true, false, false, false, false, false, false, false, false, false, false, false, false] rfl rfl (any_of HT_.out (by kernel_rfl)) (fun _ _ _ h => h) (Or.inl ⟨by rfl, ?_⟩) ?_ ?_; rotate_left
                 ·intro w'
                  go_simp
                  with_reducible rfl
                 rotate_left
                 ·simp only [Act.put, zC, zD, zE, i64_w]
                  rfl
                 refine pure_ (i := 2) (N := some 43) (v := ?_) (a' := ?_) #[true, true, true, false, false, false, false, false, false, false, false, false, false, false] rfl rfl (any_of HT_.out (by kernel_rfl)) (fun _ _ _ h => h) (Or.inl ⟨by rfl, ?_⟩) ?_ ?_; rotate_left
                 ·intro w'
                  go_simp
                  with_reducible rfl
                 rotate_left
                 ·simp only [Act.put, zC, zD, zE, i64_w]
                  rfl
                 refine pure_ (i := 3) (N := some 44) (v := ?_) (a' := ?_) #[true, true, true, true, false, false, false, false, false, false, false, false, false, false] rfl rfl (any_of HT_.out (by kernel_rfl)) (fun _ _ _ h => h) (Or.inl ⟨by rfl, ?_⟩) ?_ ?_; rotate_left
                 ·intro w'
                  go_simp
                  with_reducible rfl
                 rotate_left
                 ·simp only [Act.put, zC, zD, zE, i64_w]
                  rfl
                 refine pure_ (i := 5) (N := some 46) (v := ?_) (a' := ?_) #[true, true, true, true, false, true, false, false, false, false, false, false, false, false] rfl rfl (any_of HT_.out (by kernel_rfl)) (fun _ _ _ h => h) (Or.inl ⟨by rfl, ?_⟩) ?_ ?_; rotate_left
                 ·intro w'
                  go_simp
                  with_reducible rfl
                 rotate_left
                 ·simp only [Act.put, zC, zD, zE, i64_w]
                  rfl
                 refine pure_ (i := 6) (N := some 47) (v := ?_) (a' := ?_) #[true, true, true, true, false, true, true, false, false, false, false, false, false, false] rfl rfl (any_of HT_.out (by kernel_rfl)) (fun _ _ _ h => h) (Or.inl ⟨by rfl, ?_⟩) ?_ ?_; rotate_left
                 ·intro w'
                  go_simp
                  with_reducible rfl
                 rotate_left
                 ·simp only [Act.put, zC, zD, zE, i64_w]
                  rfl
                 refine pure_ (i := 7) (N := some 48) (v := ?_) (a' := ?_) #[true, true, true, true, false, true, true, true, false, false, false, false, false, false] rfl rfl (any_of HT_.out (by kernel_rfl)) (fun _ _ _ h => h) (Or.inl ⟨by rfl, ?_⟩) ?_ ?_; rotate_left
                 ·intro w'
                  go_simp
                  with_reducible rfl
                 rotate_left
                 ·simp only [Act.put, zC, zD, zE, i64_w]
                  rfl
                 refine pure_ (i := 8) (N := some 49) (v := ?_) (a' := ?_) #[true, true, true, true, false, true, true, true, true, false, false, false, false, false] rfl rfl (any_of HT_.out (by kernel_rfl)) (fun _ _ _ h => h) (Or.inl ⟨by rfl, ?_⟩) ?_ ?_; rotate_left
                 ·intro w'
                  go_simp
                  with_reducible rfl
                 rotate_left
                 ·simp only [Act.put, zC, zD, zE, i64_w]
                  rfl
                 refine take_ (i := 4) (N := some 45) (v := ?_) (a' := ?_) #[true, true, true, true, true, true, true, true, true, false, false, false, false, false] rfl rfl (take_ofW HT_.out HW_.out (by kernel_rfl)) (fun _ _ _ h => h) (Or.inl ⟨by rfl, ?_⟩) hHeld ?_ ?_; rotate_left
                 ·rintro w' ⟨s0, s1⟩
                  go_simp
                  with_reducible rfl
                 rotate_left
                 ·simp only [Act.put, zC, zD, zE, i64_w]
                  rfl
                 refine take_ (i := 9) (N := some 50) (v := ?_) (a' := ?_) #[true, true, true, true, true, true, true, true, true, true, false, false, false, false] rfl rfl (take_ofW HT_.out HW_.out (by kernel_rfl)) (fun _ _ _ h => h) (Or.inl ⟨by rfl, ?_⟩) hHeld ?_ ?_; rotate_left
                 ·rintro w' ⟨s0, s1⟩
                  go_simp
                  with_reducible rfl
                 rotate_left
                 ·simp only [Act.put, zC, zD, zE, i64_w]
                  rfl
                 refine one_ (i := 10) (N := some 51) #[true, true, true, true, true, true, true, true, true, true, true, false, false, false] rfl rfl (one_of HT_.out (by kernel_rfl)) (by decide) (fun K hK => ?_); refine goes_ Try.func162 (by kernel_rfl) rfl #[.string (rdOf ByteArray.empty x6_2 x10_3), .string (rdOf ByteArray.empty x6_2 (ji18))] (by rfl) rfl rfl (by (try simp only [zAA, zAB, zAC]); first | done | (simp only [hji18]; rfl) | rfl | (simp only [zZ, zY]; rfl)) ?_
                 with_reducible refine (impl_pair.calls k3 (rdOf ByteArray.empty x6_2 x10_3) (rdOf ByteArray.empty x6_2 (ji18)) t39 _ A21.out).mono ?_
                 rintro e w24 ⟨rfl, hb⟩; have HS0_ := (hb.cell (zB _ _ (hHeld.1))).trans (hHeld.1); have HS1_ := (hb.cell (zB _ _ (hHeld.2))).trans (hHeld.2); refine ⟨_, rfl, ?_⟩; have n0_ := zA (Kd.R_below (by (with_reducible repeat first | apply zQ | apply zR | apply zS); exact HO_6.out) hb); have n1_ := zA (Kd.R_below (by (with_reducible repeat first | apply zQ | apply zR | apply zS); exact HO_8.out) hb); have n2_ := zA (Kd.R_below (by (with_reducible repeat first | apply zQ | apply zR | apply zS); exact HO_9.out) hb); have n3_ := zA (zAD (by (with_reducible repeat first | exact HB.out | apply zH | apply zF | apply zG) <;> exact HB.out) hb); clear HO_6 HO_8 HO_9 HB; have HO_6 := n0_; have HO_8 := n1_; have HO_9 := n2_; have HB := n3_; clear n0_ n1_ n2_ n3_; (try clear hb); refine hK.out _ _ ⟨HS0_, HS1_⟩ (fun hHeld => ?_); clear hK K; refine norm_ (a' := ?_) ?_ ?_; rotate_left
                 ·show Act.put _ (some 51) _ = _
                  simp only [Act.put, zC, zD, zE, i64_w]; rfl
                 refine last_ (i := 11) (N := some 52) #[true, true, true, true, true, true, true, true, true, true, true, true, false, false] rfl rfl (one_of HT_.out (by kernel_rfl)) (by decide) (fun K hK => ?_); refine value_ (w1 := ?_) (v := ?_) (by rfl) rfl ?_ ?_; rotate_left 2
                 ·go_simp
                  constructor
                  ·rfl
                  ·rfl
                 refine hK.out _ _ ?_; clear hK K; refine norm_ (a' := ?_) ?_ ?_; rotate_left
                 ·show Act.put _ (some 52) _ = _
                  simp only [Act.put, zC, zD, zE, i64_w]; rfl
                 refine last_ (i := 12) (N := some 53) #[true, true, true, true, true, true, true, true, true, true, true, true, true, false] rfl rfl (one_of HT_.out (by kernel_rfl)) (by decide) (fun K hK => ?_); refine Kd.R_append_step Kd.string (w0 := w) w.heap.size (by rfl) (.tmp 41) (.tmp 52) 36 9 (.string ⟨#[]⟩) 16 rfl Try.underlying36 info9 rfl (by decide) (by omega) u9 x9_3 t39 [.string t39] (fun k_ => some k_ ≠ (.slice (some ad36) x6_2.length co14 : Value).ownBlock ∧ some k_ ≠ (v37 : Value).ownBlock) (fun _ => False) rfl rfl ?aP (fun _ hk => hk.elim) ?aF ?aO ?aB ?aS ?aL ?_; (case aP => exact rfl); (case aB => exact (by (with_reducible repeat first | exact HB.out | apply zH | apply zF | apply zG) <;> exact HB.out)); (case aF => exact (fun k_ hk => ⟨Kd.fresh' (Kd.R_lt (by (with_reducible repeat first | apply zQ | apply zR | apply zS); exact HO_6.out)) k_ hk, Kd.fresh' (Kd.R_lt (by (with_reducible repeat first | apply zQ | apply zR | apply zS); exact HO_8.out)) k_ hk⟩)); (case aO => exact (by (with_reducible repeat first | apply zQ | apply zR | apply zS); exact HO_9.out)); (case aS => exact (zAE (by (with_reducible repeat first | exact HB.out | apply zH | apply zF | apply zG) <;> exact HB.out))); (case aL => have := LMc22.out; omega); intro v45 w25 ho hb hg hat; rw [← Ny42.out] at ho; have n0_ := zA (Kd.R_after (ok := (fun k_ => some k_ ≠ (v37 : Value).ownBlock)) (by (with_reducible repeat first | apply zQ | apply zR | apply zS); exact HO_6.out) hg hat); have n1_ := zA (Kd.R_after (ok := (fun k_ => some k_ ≠ (.slice (some ad36) x6_2.length co14 : Value).ownBlock)) (by (with_reducible repeat first | apply zQ | apply zR | apply zS); exact HO_8.out) hg hat); have n2_ := zA (hb); have n3_ := zA (ho); clear HO_6 HO_8 HB HO_9; have HO_6 := n0_; have HO_8 := n1_; have HB := n2_; have HO46 := n3_; clear n0_ n1_ n2_ n3_ ho hb hg hat; refine hK.out _ _ ?_; clear hK K; refine norm_ (a' := ?_) ?_ ?_; rotate_left
                 ·show Act.put _ (some 53) _ = _
                  simp only [Act.put, zC, zD, zE, i64_w]; rfl
                 refine pure_ (i := 13) (N := some 9) (v := ?_) (a' := ?_) #[true, true, true, true, true, true, true, true, true, true, true, true, true, true] rfl rfl (any_of HT_.out (by kernel_rfl)) (fun _ _ _ h => h) (Or.inl ⟨by rfl, ?_⟩) ?_ ?_; rotate_left
                 ·intro w'
                  go_simp
                  with_reducible rfl
                 rotate_left
                 ·simp only [Act.put, zC, zD, zE, i64_w]
                  rfl
                 refine done_ (done_of HT_.out (by kernel_rfl)) ?_
                 try go_wp2
                 go_roundg k3
                 case measure => have := HK1.out; have := HK2.out; have := HK3.out; omega
                 case rel => exact ⟨(y42), (wrap64 (x10_3 + 2)), (by first | rfl | (simp; done) | (simp [*]; done) | (simp [bne]; done)), H', ⟨by have := HK1.out; have := HK2.out; have := HK3.out; omega⟩, ⟨by (with_reducible repeat first | apply zQ | apply zR | apply zS); exact HO_6.out⟩, ⟨by (with_reducible repeat first | apply zQ | apply zR | apply zS); exact HO_8.out⟩, ⟨by (with_reducible repeat first | apply zQ | apply zR | apply zS); exact HO46.out⟩, ⟨by (with_reducible repeat first | exact HB.out | apply zH | apply zF | apply zG) <;> exact HB.out⟩⟩
                ·rw [if_neg c22] at H
                 exact absurd H (by simp)
               ·rw [if_neg c20] at H
                exact absurd H (by simp)
              ·rw [if_neg c19] at H
               exact absurd H (by simp)
             ·rw [if_neg c17] at H
              exact absurd H (by simp)
            ·rw [if_neg c16] at H
             have c16b0 : decide (x10_3 < (x6_2.length : Int)) = false := decide_eq_false c16; clear c16; have H' := zA H; clear H; go_wp2; go_roundg k3
             case measure => have := HK1.out; have := HK2.out; have := HK3.out; omega
             case rel => exact ⟨((wrap64 (Int.tdiv x1_2 2))), (x9_3), (y35), (by first | rfl | (simp; done) | (simp [*]; done) | (simp [bne]; done)), H', ⟨by have := HK1.out; have := HK2.out; have := HK3.out; omega⟩, ⟨by (with_reducible repeat first | apply zQ | apply zR | apply zS); exact yC HO_9.out (fun _ hk => hk.2)⟩, ⟨by (with_reducible repeat first | apply zQ | apply zR | apply zS); exact yC HO_8.out (fun _ hk => hk.2)⟩, ⟨by (with_reducible repeat first | exact HB.out | apply zH | apply zF | apply zG) <;> exact HB.out⟩⟩
         ·rw [if_neg c13] at H
          exact absurd H (by simp)
        ·rw [if_neg c12] at H
         exact absurd H (by simp)
       ·rw [if_neg c11] at H
        exact absurd H (by simp)
      ·rw [if_neg c10] at H
       have c10b0 : decide (1 < (x6_2.length : Int)) = false := decide_eq_false c10; have c10b1 : decide (1 < x6_2.length) = false := decide_eq_false (by omega); clear c10
       by_cases c26 : 0 < (x6_2.length : Int)
       ·rw [if_pos c26] at H
        have c26b0 : decide (0 < (x6_2.length : Int)) = true := zX c26; have c26b1 : decide (0 < x6_2.length) = true := zX (by omega); clear c26; simp only [Option.some.injEq, Prod.mk.injEq] at H; obtain ⟨rfl, rfl⟩ := H; obtain ⟨Ao27, co27, eo27⟩ := Kd.R_slice HO_6.out; subst eo27
        try go_wp2
        have n0_ := zA (zS HO_6.out); have n1_ := zA (zS HO_8.out); have n2_ := zA (zG HB.out); clear HO_6 HO_8 HB; have HO_6 := n0_; have HO_8 := n1_; have HB := n2_; clear n0_ n1_ n2_; have p47 : 0 ≤ (0 : Int) := (by omega); have q47 : 0 < (x6_2.length : Int) := zW (by first | (with_reducible assumption) | assumption); obtain ⟨ad47, e47, hx47_0⟩ := Kd.at_string (yD HO_6.out).2.2 0 p47 q47
        cases e47
        have qi243 : (0 < x6_2.length) = True := eq_true (by omega); (try rw [show ((0 : Int)).toNat = 0 from rfl] at hx47_0); (try rw [Addr.add_zero'] at hx47_0); replace p47 := eq_true p47; replace q47 := eq_true q47; refine start_ (n := 6) (S := fun w' => w'.cell? ad47 = some (.string (rdOf ByteArray.empty x6_2 0))) (ds := []) #[false, false, false, false, false, false] (by kernel_rfl) rfl rfl (hx47_0) (fun hHeld => ?_); generalize wr.drew = w28 at HO_6 HO_8 HB hx47_0 hHeld ⊢; refine pure_ (i := 0) (N := some 55) (v := ?_) (a' := ?_) #[true, false, false, false, false, false] rfl rfl (by kernel_rfl) (fun _ _ _ h => h) (Or.inl ⟨by rfl, ?_⟩) ?_ ?_; rotate_left
        ·intro w'
         go_simp
         with_reducible rfl
        rotate_left
        ·simp only [Act.put, zC, zD, zE, i64_w]
         rfl
        refine pure_ (i := 1) (N := some 56) (v := ?_) (a' := ?_) #[true, true, false, false, false, false] rfl rfl (by kernel_rfl) (fun _ _ _ h => h) (Or.inl ⟨by rfl, ?_⟩) ?_ ?_; rotate_left
        ·intro w'
         go_simp
         with_reducible rfl
        rotate_left
        ·simp only [Act.put, zC, zD, zE, i64_w]
         rfl
        refine pure_ (i := 2) (N := some 57) (v := ?_) (a' := ?_) #[true, true, true, false, false, false] rfl rfl (by kernel_rfl) (fun _ _ _ h => h) (Or.inl ⟨by rfl, ?_⟩) ?_ ?_; rotate_left
        ·intro w'
         go_simp
         with_reducible rfl
        rotate_left
        ·simp only [Act.put, zC, zD, zE, i64_w]
         rfl
        refine pure_ (i := 4) (N := some 4) (v := ?_) (a' := ?_) #[true, true, true, false, true, false] rfl rfl (by kernel_rfl) (fun _ _ _ h => h) (Or.inl ⟨by rfl, ?_⟩) ?_ ?_; rotate_left
        ·intro w'
         go_simp
         with_reducible rfl
        rotate_left
        ·simp only [Act.put, zC, zD, zE, i64_w]
         rfl
        refine take_ (i := 3) (N := some 58) (v := ?_) (a' := ?_) #[true, true, true, true, true, false] rfl rfl (by kernel_rfl) (fun _ _ _ h => h) (Or.inl ⟨by rfl, ?_⟩) hHeld ?_ ?_; rotate_left
        ·intro w' s0
         go_simp
         with_reducible rfl
        rotate_left
        ·simp only [Act.put, zC, zD, zE, i64_w]
         rfl
        refine pure_ (i := 5) (N := some 5) (v := ?_) (a' := ?_) #[true, true, true, true, true, true] rfl rfl (by kernel_rfl) (fun _ _ _ h => h) (Or.inl ⟨by rfl, ?_⟩) ?_ ?_; rotate_left
        ·intro w'
         go_simp
         with_reducible rfl
        rotate_left
        ·simp only [Act.put, zC, zD, zE, i64_w]
         rfl
        refine done_ (by kernel_rfl) ?_
        try go_wp2
        go_ret2; exact ⟨_, by first | rfl | (simp <;> rfl) | (simp [*] <;> rfl), by (with_reducible repeat first | apply zQ | apply zR | apply zS); exact yC HO_8.out (fun _ hk => trivial), by (with_reducible repeat first | exact HB.out | apply zH | apply zF | apply zG) <;> exact HB.out⟩
       ·rw [if_neg c26] at H
        exact absurd H (by simp)
def impl_digits.l0 : Nat → List Int → Int → List Int → Int → Int → Option (List Int)
 | 0, _, _, _, _, _ => none
 | k + 1, x3, x4, x11, x12, x13 => if x13 < x12 then (if 0 ≤ x13 then (if x13 < (x11.length : Int) then ((some (([(Int.tdiv (rd x11 x13) 16) % 256, wrap64 (Int.tmod (rd x11 x13) 16)] : List Int) : List Int)).bind fun y10 => (if x3.length + y10.length < 17592186044416 then (impl_digits.l0 k (x3 ++ y10) (wrap64 (x4 + (wrap64 ((30 - ((Int.tdiv (rd x11 x13) 16) % 256)) - (wrap64 (Int.tmod (rd x11 x13) 16)))))) x11 x12 (wrap64 (x13 + 1))) else (none))) else (none)) else (none)) else ((some (([wrap64 (Int.tdiv x4 256), Int.tmod (wrap64 (Int.tdiv x4 16)) 16, Int.tmod x4 16] : List Int) : List Int)).bind fun y14 => (if x3.length + y14.length < 17592186044416 then (some (x3 ++ y14)) else (none)))
def impl_digits.f (k : Nat) (a0 : ByteArray) : Option (List Int) := (impl_digest.f k 109 a0).bind fun t10 => (if t10.size ≤ 9223372036854775807 then ((some (bytesOf t10 : List Int)).bind fun y11 => (impl_digits.l0 k ([] : List Int) 0 y11 (y11.length : Int) 0)) else (none))
theorem impl_digits.calls (k : Nat) (a0 : ByteArray) (r : List Int) (w : World) (h : impl_digits.f k a0 = some r) :
  Calls Try.prog 164 #[.string a0] w fun e w' => ∃ v0_ : Value, e = .returned (v0_) ∧ Kd.R (Kd.int .i64) 3 w' w.heap.size (fun _ => True) v0_ r ∧ Below w.heap.size w w' := by
 have HB := zA (Below.refl w.heap.size w); have H : ((impl_digest.f k 109 a0).bind fun t19 => (if t19.size ≤ 9223372036854775807 then ((some (bytesOf t19 : List Int)).bind fun y21 => (impl_digits.l0 k ([] : List Int) 0 y21 (y21.length : Int) 0)) else (none))) = some r := h; clear h; replace H := zAF H; obtain ⟨t19, A20, H⟩ := H; replace H : (if t19.size ≤ 9223372036854775807 then ((some (bytesOf t19 : List Int)).bind fun y21 => (impl_digits.l0 k ([] : List Int) 0 y21 (y21.length : Int) 0)) else (none)) = some r := H; have A2 := zA A20; clear A20
 by_cases c3 : t19.size ≤ 9223372036854775807
 ·rw [if_pos c3] at H
  have c3b0 := eq_true c3; have c3b1 : decide (t19.size ≤ 9223372036854775807) = true := zX c3
  try have c3b2 : (9223372036854775807 < t19.size) = False := eq_false (Nat.not_lt.2 c3)
  clear c3; obtain ⟨y21, hy21⟩ : ∃ y_ : List Int, y_ = (bytesOf t19) := ⟨_, rfl⟩; replace H : (impl_digits.l0 k ([] : List Int) 0 y21 (y21.length : Int) 0) = some r := by first | (rw [hy21]; with_reducible exact H) | (have H2_ := (Option.bind_some _ _).symm.trans H; rw [hy21]; with_reducible exact H2_) | (have H2_ := (Option.bind_some _ _).symm.trans H; with_reducible exact H2_) | with_reducible exact H | (rw [hy21]; exact H) | exact H
  have Ny21 := zA hy21; clear hy21; have H' := zA H; clear H; go_enter Try.func164, Try.ntmps164; go_wp2_with (first | ((with_reducible refine yB (f := 179) rfl ?_); refine goesL_ (some 10) rfl rfl Try.func179 (by kernel_rfl) rfl #[.int .u8 109, .string a0] rfl (by (try simp only [zAA, zAB, zAC]); first | done | rfl) ?_; (with_reducible refine (impl_digest.calls k 109 a0 t19 _ A2.out).mono ?_); rintro e w4 ⟨rfl, hb⟩; refine ⟨_, rfl, ?_⟩; have n0_ := zA (zAD (by (with_reducible repeat first | exact HB.out | apply zH | apply zF | apply zG) <;> exact HB.out) hb); clear HB; have HB := n0_; clear n0_; (try clear hb)) | ((with_reducible refine gate_dst (N := 11) rfl ?_); refine pp_conv (P := Try.prog) (by rfl) (N := 11) (by rfl) 9 22 5 _ (by rfl) t19 (by rfl) Try.underlying9 Try.underlying22 Try.underlying5 (zW (by first | (with_reducible assumption) | assumption)) y21 Ny21.out ?_; intro A22 c22 w5 hr_ hc_ hb; have n0_ := zA (hr_); have n1_ := zA (hc_); have n2_ := zA (zAD (by (with_reducible repeat first | exact HB.out | apply zH | apply zF | apply zG) <;> exact HB.out) hb); clear HB; have HR22 := n0_; have HC22 := n1_; have HB := n2_; clear n0_ n1_ n2_; clear hr_ hc_ hb)); go_loopg [3, 4, 13] k (fun kq v3 v4 v13 w' => ∃ (x3_1 : List Int) (x4_1 : Int) (x13_1 : Int), v4 = .int .i64 x4_1 ∧ v13 = .int .i64 x13_1 ∧ Aside0 (impl_digits.l0 kq x3_1 x4_1 y21 (y21.length : Int) x13_1 = some r) ∧ Aside0 (kq ≤ k) ∧ Aside0 (Kd.R (Kd.int .i64) 3 w' w.heap.size (fun _ => True) v3 x3_1) ∧ Aside0 (CV w' A22 y21) ∧ Aside0 (Below w.heap.size w w'))
  case atStart => exact ⟨(([] : List Int)), (0), (0), (by first | rfl | (simp; done) | (simp [*]; done) | (simp [bne]; done)), (by first | rfl | (simp; done) | (simp [*]; done) | (simp [bne]; done)), H', ⟨Nat.le_refl _⟩, ⟨by first | exact Kd.R_nil _ _ _ _ _ | exact Kd.N_nil _ _ _ _ _ | exact Kd.V_nil _ _ _ _ _ | exact Kd.Q_nil _ _ _ _ _ | exact Kd.S_nil _ _ _ _ _⟩, ⟨by repeat (first | (with_reducible exact HR22.out) | (with_reducible refine CV_alloc ?_ _) | (with_reducible refine CV_drewN ?_ _) | (with_reducible refine CV_drew ?_) | exact HR22.out)⟩, ⟨by (with_reducible repeat first | exact HB.out | apply zH | apply zF | apply zG) <;> exact HB.out⟩⟩
  case round =>
   clear H'
   try clear c1
   try clear c2
   try clear p2
   try clear c3
   try clear c3b0
   try clear c3b1
   try clear c3b2
   obtain ⟨x3_1, x4_1, x13_1, rfl, rfl, HA, HK1, HO_3, HR22, HB⟩ := hrel
   cases gk with
   | zero => exact absurd HA.out (by simp [impl_digits.l0])
   | succ k1 =>
    have H := HA.out; clear HA; simp only [impl_digits.l0] at H
    by_cases c6 : x13_1 < (y21.length : Int)
    ·rw [if_pos c6] at H
     have c6b0 : decide (x13_1 < (y21.length : Int)) = true := zX c6; clear c6
     by_cases c7 : 0 ≤ x13_1
     ·rw [if_pos c7] at H
      have c7b0 : decide (0 ≤ x13_1) = true := zX c7; clear c7
      by_cases c8 : x13_1 < (y21.length : Int)
      ·rw [if_pos c8] at H
       have c8b0 : decide (x13_1 < (y21.length : Int)) = true := zX c8; clear c8; obtain ⟨y23, hy23⟩ : ∃ y_ : List Int, y_ = (([(Int.tdiv (rd y21 x13_1) 16) % 256, wrap64 (Int.tmod (rd y21 x13_1) 16)] : List Int)) := ⟨_, rfl⟩; replace H : (if x3_1.length + y23.length < 17592186044416 then (impl_digits.l0 k1 (x3_1 ++ y23) (wrap64 (x4_1 + (wrap64 ((30 - ((Int.tdiv (rd y21 x13_1) 16) % 256)) - (wrap64 (Int.tmod (rd y21 x13_1) 16)))))) y21 (y21.length : Int) (wrap64 (x13_1 + 1))) else (none)) = some r := by first | (rw [hy23]; with_reducible exact H) | (have H2_ := (Option.bind_some _ _).symm.trans H; rw [hy23]; with_reducible exact H2_) | (have H2_ := (Option.bind_some _ _).symm.trans H; with_reducible exact H2_) | with_reducible exact H | (rw [hy23]; exact H) | exact H
       have Ny23 := zA hy23; clear hy23
       by_cases c9 : x3_1.length + y23.length < 17592186044416
       ·rw [if_pos c9] at H
        have LMc9 := zA c9; clear c9; obtain ⟨y24, hy24⟩ : ∃ y_ : List Int, y_ = (x3_1 ++ y23) := ⟨_, rfl⟩; replace H : (impl_digits.l0 k1 y24 (wrap64 (x4_1 + (wrap64 ((30 - ((Int.tdiv (rd y21 x13_1) 16) % 256)) - (wrap64 (Int.tmod (rd y21 x13_1) 16)))))) y21 (y21.length : Int) (wrap64 (x13_1 + 1))) = some r := by first | (rw [hy24]; with_reducible exact H) | (have H2_ := (Option.bind_some _ _).symm.trans H; rw [hy24]; with_reducible exact H2_) | (have H2_ := (Option.bind_some _ _).symm.trans H; with_reducible exact H2_) | with_reducible exact H | (rw [hy24]; exact H) | exact H
        have Ny24 := zA hy24; clear hy24; have H' := zA H; clear H; have p25 : 0 ≤ (x13_1 : Int) := zW (by first | (with_reducible assumption) | assumption); have q25 : x13_1 < (y21.length : Int) := zW (by first | (with_reducible assumption) | assumption); obtain ⟨ad25, e25, hx25_0⟩ := Kd.at_int (CV_C (by repeat (first | (with_reducible exact HR22.out) | (with_reducible refine CV_alloc ?_ _) | (with_reducible refine CV_drewN ?_ _) | (with_reducible refine CV_drew ?_) | exact HR22.out))) x13_1 p25 q25
        cases e25
        replace p25 := eq_true p25; replace q25 := eq_true q25; go_wp2_with (first | ((with_reducible refine gate_dst (N := 26) rfl ?_); refine Kd.R_lit (Kd.int .i64) _ 3 ?hg (N := 26) ?hd (xs := ([(Int.tdiv (rd y21 x13_1) 16) % 256, wrap64 (Int.tmod (rd y21 x13_1) 16)] : List Int)) (inner := [.int .i64 ((Int.tdiv (rd y21 x13_1) 16) % 256), .int .i64 (wrap64 (Int.tmod (rd y21 x13_1) 16))]) (ok := fun _ => True) (okp := fun _ => True) ?hr ?hp (fun _ hk => hk) trivial (Below.refl _ _) (Nat.le_refl _) (by simp) ?_; (case hd => rfl); (case hg => rfl); (case hr => first | (go_simp; done) | (go_simp; rfl)); (case hp => exact (Reps.one (show Kd.M (Kd.int .i64) _ _ _ ((Int.tdiv (rd y21 x13_1) 16) % 256) [.int .i64 ((Int.tdiv (rd y21 x13_1) 16) % 256)] from rfl) (Reps.one (show Kd.M (Kd.int .i64) _ _ _ (wrap64 (Int.tmod (rd y21 x13_1) 16)) [.int .i64 (wrap64 (Int.tmod (rd y21 x13_1) 16))] from rfl) (Reps.none _ _)))); intro v26 w10 ho11 hb hg_ hnew_; clear hg_ hnew_; (first | rw [← Ny23.out] at ho11 | (simp only [Int.reduceToNat] at ho11; rw [← Ny23.out] at ho11)); have n0_ := zA (yJ (by (with_reducible repeat first | apply zQ | apply zR | apply zS); exact HO_3.out) (Kd.R_base ho11) hb); have n1_ := zA (Kd.R_lower (yK ho11 (Kd.R_lt (by (with_reducible repeat first | apply zQ | apply zR | apply zS); exact HO_3.out))) (zAE (by (with_reducible repeat first | exact HB.out | apply zH | apply zF | apply zG) <;> exact HB.out))); have n2_ := zA (CV_below (by repeat (first | (with_reducible exact HR22.out) | (with_reducible refine CV_alloc ?_ _) | (with_reducible refine CV_drewN ?_ _) | (with_reducible refine CV_drew ?_) | exact HR22.out)) hb); have n3_ := zA (zAD (by (with_reducible repeat first | exact HB.out | apply zH | apply zF | apply zG) <;> exact HB.out) hb); clear HO_3; clear HR22; clear HB; have HO_3 := n0_; have HO27 := n1_; have HR22 := n2_; have HB := n3_; clear n0_ n1_ n2_ n3_; clear hb ho11; obtain ⟨Ao13, co13, eo13⟩ := Kd.R_slice HO27.out; subst eo13) | ((with_reducible refine gate_builtin (b := .append) (xs := #[.tmp 23, .tmp 26]) rfl ?_); at_builtin; refine Kd.R_append_rows (Kd.int .i64) (w0 := w) w.heap.size rfl (.tmp 23) (.tmp 26) 75 3 (.int .i64 0) 8 rfl Try.underlying75 info3 rfl (by decide) (by omega) u3 x3_1 y23 _ _ _ (fun k_ => some k_ ≠ (.slice Ao13 y23.length co13 : Value).ownBlock) (fun _ => False) rfl rfl ?aO ?aR (fun _ _ h => h) (fun _ h => h.elim) ?aF ?aB ?aS ?aL ?_; (case aR => repeat (first | exact (yD HO27.out).2.2 | (with_reducible first | refine zT ?_ _ | refine zU ?_ _ | refine zV ?_))); (case aB => exact (by (with_reducible repeat first | exact HB.out | apply zH | apply zF | apply zG) <;> exact HB.out)); (case aF => exact (fun k_ hk => Kd.fresh' (Kd.R_lt (by (with_reducible repeat first | apply zQ | apply zR | apply zS); exact HO27.out)) k_ hk)); (case aO => exact (by (with_reducible repeat first | apply zQ | apply zR | apply zS); exact yC HO_3.out (fun _ hk => hk.2))); (case aS => exact (zAE (by (with_reducible repeat first | exact HB.out | apply zH | apply zF | apply zG) <;> exact HB.out))); (case aL => have := LMc9.out; omega); intro v28 w12 ho hb hg hat; rw [← Ny24.out] at ho; have n0_ := zA (Kd.R_after (ok := (fun _ => True)) (by (with_reducible repeat first | apply zQ | apply zR | apply zS); exact HO27.out) hg hat); have n1_ := zA (hb); have n2_ := zA (CV_grown (by repeat (first | (with_reducible exact HR22.out) | (with_reducible refine CV_alloc ?_ _) | (with_reducible refine CV_drewN ?_ _) | (with_reducible refine CV_drew ?_) | exact HR22.out)) (by (with_reducible repeat first | apply zQ | apply zR | apply zS); exact HO_3.out) hg); have n3_ := zA (ho); clear HO27; clear HB; clear HR22; clear HO_3; have HO27 := n0_; have HB := n1_; have HR22 := n2_; have HO29 := n3_; clear n0_ n1_ n2_ n3_; clear ho hb hg hat)); go_roundg k1
        case measure => have := HK1.out; omega
        case rel => exact ⟨(y24), (wrap64 (x4_1 + (wrap64 ((30 - ((Int.tdiv (rd y21 x13_1) 16) % 256)) - (wrap64 (Int.tmod (rd y21 x13_1) 16)))))), (wrap64 (x13_1 + 1)), (by first | rfl | (simp; done) | (simp [*]; done) | (simp [bne]; done)), (by first | rfl | (simp; done) | (simp [*]; done) | (simp [bne]; done)), H', ⟨by have := HK1.out; omega⟩, ⟨by (with_reducible repeat first | apply zQ | apply zR | apply zS); exact yC HO29.out (fun _ hk => trivial)⟩, ⟨by repeat (first | (with_reducible exact HR22.out) | (with_reducible refine CV_alloc ?_ _) | (with_reducible refine CV_drewN ?_ _) | (with_reducible refine CV_drew ?_) | exact HR22.out)⟩, ⟨by (with_reducible repeat first | exact HB.out | apply zH | apply zF | apply zG) <;> exact HB.out⟩⟩
       ·rw [if_neg c9] at H
        exact absurd H (by simp)
      ·rw [if_neg c8] at H
       exact absurd H (by simp)
     ·rw [if_neg c7] at H
      exact absurd H (by simp)
    ·rw [if_neg c6] at H
     have c6b0 : decide (x13_1 < (y21.length : Int)) = false := decide_eq_false c6; clear c6; obtain ⟨y30, hy30⟩ : ∃ y_ : List Int, y_ = (([wrap64 (Int.tdiv x4_1 256), Int.tmod (wrap64 (Int.tdiv x4_1 16)) 16, Int.tmod x4_1 16] : List Int)) := ⟨_, rfl⟩; replace H : (if x3_1.length + y30.length < 17592186044416 then (some (x3_1 ++ y30)) else (none)) = some r := by first | (rw [hy30]; with_reducible exact H) | (have H2_ := (Option.bind_some _ _).symm.trans H; rw [hy30]; with_reducible exact H2_) | (have H2_ := (Option.bind_some _ _).symm.trans H; with_reducible exact H2_) | with_reducible exact H | (rw [hy30]; exact H) | exact H
     have Ny30 := zA hy30; clear hy30
     by_cases c14 : x3_1.length + y30.length < 17592186044416
     ·rw [if_pos c14] at H
      have LMc14 := zA c14; clear c14; obtain ⟨y31, hy31⟩ : ∃ y_ : List Int, y_ = (x3_1 ++ y30) := ⟨_, rfl⟩; replace H : (some y31) = some r := by first | (rw [hy31]; with_reducible exact H) | (have H2_ := (Option.bind_some _ _).symm.trans H; rw [hy31]; with_reducible exact H2_) | (have H2_ := (Option.bind_some _ _).symm.trans H; with_reducible exact H2_) | with_reducible exact H | (rw [hy31]; exact H) | exact H
      have Ny31 := zA hy31; clear hy31; obtain rfl := yM H; go_wp2_with (first | ((with_reducible refine gate_dst (N := 43) rfl ?_); refine Kd.R_lit (Kd.int .i64) _ 3 ?hg (N := 43) ?hd (xs := ([wrap64 (Int.tdiv x4_1 256), Int.tmod (wrap64 (Int.tdiv x4_1 16)) 16, Int.tmod x4_1 16] : List Int)) (inner := [.int .i64 (wrap64 (Int.tdiv x4_1 256)), .int .i64 (Int.tmod (wrap64 (Int.tdiv x4_1 16)) 16), .int .i64 (Int.tmod x4_1 16)]) (ok := fun _ => True) (okp := fun _ => True) ?hr ?hp (fun _ hk => hk) trivial (Below.refl _ _) (Nat.le_refl _) (by simp) ?_; (case hd => rfl); (case hg => rfl); (case hr => first | (go_simp; done) | (go_simp; rfl)); (case hp => exact (Reps.one (show Kd.M (Kd.int .i64) _ _ _ (wrap64 (Int.tdiv x4_1 256)) [.int .i64 (wrap64 (Int.tdiv x4_1 256))] from rfl) (Reps.one (show Kd.M (Kd.int .i64) _ _ _ (Int.tmod (wrap64 (Int.tdiv x4_1 16)) 16) [.int .i64 (Int.tmod (wrap64 (Int.tdiv x4_1 16)) 16)] from rfl) (Reps.one (show Kd.M (Kd.int .i64) _ _ _ (Int.tmod x4_1 16) [.int .i64 (Int.tmod x4_1 16)] from rfl) (Reps.none _ _))))); intro v32 w15 ho16 hb hg_ hnew_; clear hg_ hnew_; (first | rw [← Ny30.out] at ho16 | (simp only [Int.reduceToNat] at ho16; rw [← Ny30.out] at ho16)); have n0_ := zA (yJ (by (with_reducible repeat first | apply zQ | apply zR | apply zS); exact HO_3.out) (Kd.R_base ho16) hb); have n1_ := zA (Kd.R_lower (yK ho16 (Kd.R_lt (by (with_reducible repeat first | apply zQ | apply zR | apply zS); exact HO_3.out))) (zAE (by (with_reducible repeat first | exact HB.out | apply zH | apply zF | apply zG) <;> exact HB.out))); have n2_ := zA (CV_below (by repeat (first | (with_reducible exact HR22.out) | (with_reducible refine CV_alloc ?_ _) | (with_reducible refine CV_drewN ?_ _) | (with_reducible refine CV_drew ?_) | exact HR22.out)) hb); have n3_ := zA (zAD (by (with_reducible repeat first | exact HB.out | apply zH | apply zF | apply zG) <;> exact HB.out) hb); clear HO_3; clear HR22; clear HB; have HO_3 := n0_; have HO33 := n1_; have HR22 := n2_; have HB := n3_; clear n0_ n1_ n2_ n3_; clear hb ho16; obtain ⟨Ao18, co18, eo18⟩ := Kd.R_slice HO33.out; subst eo18) | ((with_reducible refine gate_builtin (b := .append) (xs := #[.tmp 35, .tmp 43]) rfl ?_); at_builtin; refine Kd.R_append_rows (Kd.int .i64) (w0 := w) w.heap.size rfl (.tmp 35) (.tmp 43) 75 3 (.int .i64 0) 8 rfl Try.underlying75 info3 rfl (by decide) (by omega) u3 x3_1 y30 _ _ _ (fun k_ => some k_ ≠ (.slice Ao18 y30.length co18 : Value).ownBlock) (fun _ => False) rfl rfl ?aO ?aR (fun _ _ h => h) (fun _ h => h.elim) ?aF ?aB ?aS ?aL ?_; (case aR => repeat (first | exact (yD HO33.out).2.2 | (with_reducible first | refine zT ?_ _ | refine zU ?_ _ | refine zV ?_))); (case aB => exact (by (with_reducible repeat first | exact HB.out | apply zH | apply zF | apply zG) <;> exact HB.out)); (case aF => exact (fun k_ hk => Kd.fresh' (Kd.R_lt (by (with_reducible repeat first | apply zQ | apply zR | apply zS); exact HO33.out)) k_ hk)); (case aO => exact (by (with_reducible repeat first | apply zQ | apply zR | apply zS); exact yC HO_3.out (fun _ hk => hk.2))); (case aS => exact (zAE (by (with_reducible repeat first | exact HB.out | apply zH | apply zF | apply zG) <;> exact HB.out))); (case aL => have := LMc14.out; omega); intro v34 w17 ho hb hg hat; rw [← Ny31.out] at ho; have n0_ := zA (Kd.R_after (ok := (fun _ => True)) (by (with_reducible repeat first | apply zQ | apply zR | apply zS); exact HO33.out) hg hat); have n1_ := zA (hb); have n2_ := zA (CV_grown (by repeat (first | (with_reducible exact HR22.out) | (with_reducible refine CV_alloc ?_ _) | (with_reducible refine CV_drewN ?_ _) | (with_reducible refine CV_drew ?_) | exact HR22.out)) (by (with_reducible repeat first | apply zQ | apply zR | apply zS); exact HO_3.out) hg); have n3_ := zA (ho); clear HO33; clear HB; clear HR22; clear HO_3; have HO33 := n0_; have HB := n1_; have HR22 := n2_; have HO35 := n3_; clear n0_ n1_ n2_ n3_; clear ho hb hg hat)); go_ret; exact ⟨_, by first | rfl | (simp <;> rfl) | (simp [*] <;> rfl), by (with_reducible repeat first | apply zQ | apply zR | apply zS); exact yC HO35.out (fun _ hk => trivial), by (with_reducible repeat first | exact HB.out | apply zH | apply zF | apply zG) <;> exact HB.out⟩
     ·rw [if_neg c14] at H
      exact absurd H (by simp)
 ·rw [if_neg c3] at H
  exact absurd H (by simp)
def impl_sign.l0 : Nat → List ByteArray → List Int → Int → Int → Option (List ByteArray)
 | 0, _, _, _, _ => none
 | k + 1, x5, x11, x12, x13 => if x13 < x12 then (if 0 ≤ x13 then (if x13 < (x11.length : Int) then (if x13 < (x5.length : Int) then ((impl_chain.f k (rdOf ByteArray.empty x5 x13) 0 (rd x11 x13)).bind fun t10 => (impl_sign.l0 k (x5.set (x13 : Int).toNat t10) x11 x12 (wrap64 (x13 + 1)))) else (none)) else (none)) else (none)) else (some x5)
def impl_sign.f (k : Nat) (a0 : ByteArray) (a1 : ByteArray) : Option (List ByteArray) := (impl_parts.f k a0).bind fun t10 => ((impl_digits.f k a1).bind fun t11 => (impl_sign.l0 k t10 t11 (t11.length : Int) 0))
theorem impl_sign.calls (k : Nat) (a0 : ByteArray) (a1 : ByteArray) (r : List ByteArray) (w : World) (h : impl_sign.f k a0 a1 = some r) :
  Calls Try.prog 85 #[.string a0, .string a1] w fun e w' => ∃ v0_ : Value, e = .returned (v0_) ∧ Kd.R Kd.string 9 w' w.heap.size (fun _ => True) v0_ r ∧ Below w.heap.size w w' := by
 have HB := zA (Below.refl w.heap.size w); have H : ((impl_parts.f k a0).bind fun t18 => ((impl_digits.f k a1).bind fun t19 => (impl_sign.l0 k t18 t19 (t19.length : Int) 0))) = some r := h; clear h; replace H := zAF H; obtain ⟨t18, A30, H⟩ := H; replace H : ((impl_digits.f k a1).bind fun t19 => (impl_sign.l0 k t18 t19 (t19.length : Int) 0)) = some r := H; have A3 := zA A30; clear A30; replace H := zAF H; obtain ⟨t19, A40, H⟩ := H; replace H : (impl_sign.l0 k t18 t19 (t19.length : Int) 0) = some r := H; have A4 := zA A40; clear A40; have H' := zA H; clear H; go_enter Try.func85, Try.ntmps85; go_wp2_with (first | ((with_reducible refine yB (f := 163) rfl ?_); refine goesL_ (some 9) rfl rfl Try.func163 (by kernel_rfl) rfl #[.string a0] rfl (by (try simp only [zAA, zAB, zAC]); first | done | rfl) ?_; (with_reducible refine (impl_parts.calls k a0 t18 _ A3.out).mono ?_); rintro e w5 ⟨v20, rfl, ho0, hb⟩; refine ⟨_, rfl, ?_⟩; have n0_ := zA (Kd.R_lower ho0 (zAE (by (with_reducible repeat first | exact HB.out | apply zH | apply zF | apply zG) <;> exact HB.out))); have n1_ := zA (zAD (by (with_reducible repeat first | exact HB.out | apply zH | apply zF | apply zG) <;> exact HB.out) hb); clear HB; have HO21 := n0_; have HB := n1_; clear n0_ n1_; (try clear hb); (try clear ho0)) | ((with_reducible refine yB (f := 164) rfl ?_); refine goesL_ (some 11) rfl rfl Try.func164 (by kernel_rfl) rfl #[.string a1] rfl (by (try simp only [zAA, zAB, zAC]); first | done | rfl) ?_; (with_reducible refine (impl_digits.calls k a1 t19 _ A4.out).mono ?_); rintro e w6 ⟨v22, rfl, ho0, hb⟩; refine ⟨_, rfl, ?_⟩; have n0_ := zA (Kd.R_below (by (with_reducible repeat first | apply zQ | apply zR | apply zS); exact HO21.out) hb); have n1_ := zA (Kd.R_lower ho0 (zAE (by (with_reducible repeat first | exact HB.out | apply zH | apply zF | apply zG) <;> exact HB.out))); have n2_ := zA (zAD (by (with_reducible repeat first | exact HB.out | apply zH | apply zF | apply zG) <;> exact HB.out) hb); clear HO21; clear HB; have HO21 := n0_; have HO23 := n1_; have HB := n2_; clear n0_ n1_ n2_; (try clear hb); (try clear ho0); obtain ⟨Ao7, co7, eo7⟩ := Kd.R_slice HO23.out; subst eo7)); go_loopg [13] k (fun kq v13 w' => ∃ (x5_1 : List ByteArray) (x13_1 : Int), v13 = .int .i64 x13_1 ∧ Aside0 (impl_sign.l0 kq x5_1 t19 (t19.length : Int) x13_1 = some r) ∧ Aside0 (kq ≤ k) ∧ Aside0 (Kd.R Kd.string 9 w' w.heap.size (fun _ => True) v20 x5_1) ∧ Aside0 (Kd.R (Kd.int .i64) 3 w' w.heap.size (fun _ => True) (.slice Ao7 t19.length co7) t19) ∧ Aside0 (Below w.heap.size w w'))
 case atStart => exact ⟨(t18), (0), (by first | rfl | (simp; done) | (simp [*]; done) | (simp [bne]; done)), H', ⟨Nat.le_refl _⟩, ⟨by (with_reducible repeat first | apply zQ | apply zR | apply zS); exact HO21.out⟩, ⟨by (with_reducible repeat first | apply zQ | apply zR | apply zS); exact HO23.out⟩, ⟨by (with_reducible repeat first | exact HB.out | apply zH | apply zF | apply zG) <;> exact HB.out⟩⟩
 case round =>
  clear H'
  try clear c1
  try clear p2
  obtain ⟨x5_1, x13_1, rfl, HA, HK1, HO_5, HO_11, HB⟩ := hrel
  cases gk with
  | zero => exact absurd HA.out (by simp [impl_sign.l0])
  | succ k1 =>
   have H := HA.out; clear HA; simp only [impl_sign.l0] at H
   by_cases c8 : x13_1 < (t19.length : Int)
   ·rw [if_pos c8] at H
    have c8b0 : decide (x13_1 < (t19.length : Int)) = true := zX c8; clear c8
    by_cases c9 : 0 ≤ x13_1
    ·rw [if_pos c9] at H
     have c9b0 : decide (0 ≤ x13_1) = true := zX c9; clear c9
     by_cases c10 : x13_1 < (t19.length : Int)
     ·rw [if_pos c10] at H
      have c10b0 : decide (x13_1 < (t19.length : Int)) = true := zX c10; clear c10
      by_cases c11 : x13_1 < (x5_1.length : Int)
      ·rw [if_pos c11] at H
       have c11b0 : decide (x13_1 < (x5_1.length : Int)) = true := zX c11; clear c11; replace H := zAF H; obtain ⟨t24, A25, H⟩ := H; replace H : (impl_sign.l0 k1 (x5_1.set (x13_1 : Int).toNat t24) t19 (t19.length : Int) (wrap64 (x13_1 + 1))) = some r := H; have A12 := zA A25; clear A25; obtain ⟨y26, hy26⟩ : ∃ y_ : List ByteArray, y_ = (x5_1.set (x13_1 : Int).toNat t24) := ⟨_, rfl⟩; replace H : (impl_sign.l0 k1 y26 t19 (t19.length : Int) (wrap64 (x13_1 + 1))) = some r := by first | (rw [hy26]; with_reducible exact H) | (have H2_ := (Option.bind_some _ _).symm.trans H; rw [hy26]; with_reducible exact H2_) | (have H2_ := (Option.bind_some _ _).symm.trans H; with_reducible exact H2_) | with_reducible exact H | (rw [hy26]; exact H) | exact H
       have Ny26 := zA hy26; clear hy26; have H' := zA H; clear H; have p27 : 0 ≤ (x13_1 : Int) := zW (by first | (with_reducible assumption) | assumption); have q27 : x13_1 < (t19.length : Int) := zW (by first | (with_reducible assumption) | assumption); obtain ⟨ad27, e27, hx27_0⟩ := Kd.at_int (yD HO_11.out).2.2 x13_1 p27 q27
       cases e27
       replace p27 := eq_true p27; replace q27 := eq_true q27; obtain ⟨Ao14, co14, eo14⟩ := Kd.R_slice HO_5.out; subst eo14; have p28 : 0 ≤ (x13_1 : Int) := zW (by first | (with_reducible assumption) | assumption); have q28 : x13_1 < (x5_1.length : Int) := zW (by first | (with_reducible assumption) | assumption); obtain ⟨ad28, e28, hx28_0⟩ := Kd.at_string (yD HO_5.out).2.2 x13_1 p28 q28
       cases e28
       replace p28 := eq_true p28; replace q28 := eq_true q28; go_wp2_with (first | ((with_reducible refine yB (f := 165) rfl ?_); refine goesL_ (some 25) rfl rfl Try.func165 (by kernel_rfl) rfl #[.string (rdOf ByteArray.empty x5_1 x13_1), .int .i64 0, .int .i64 (rd t19 x13_1)] rfl (by (try simp only [zAA, zAB, zAC]); first | done | rfl) ?_; (with_reducible refine (impl_chain.calls k1 (rdOf ByteArray.empty x5_1 x13_1) 0 (rd t19 x13_1) t24 _ A12.out).mono ?_); rintro e w15 ⟨rfl, hb⟩; refine ⟨_, rfl, ?_⟩; have n0_ := zA (Kd.R_below (by (with_reducible repeat first | apply zQ | apply zR | apply zS); exact HO_5.out) hb); have n1_ := zA (Kd.R_below (by (with_reducible repeat first | apply zQ | apply zR | apply zS); exact HO_11.out) hb); have n2_ := zA (zAD (by (with_reducible repeat first | exact HB.out | apply zH | apply zF | apply zG) <;> exact HB.out) hb); clear HO_5; clear HO_11; clear HB; have HO_5 := n0_; have HO_11 := n1_; have HB := n2_; clear n0_ n1_ n2_; (try clear hb); have p13 : 0 ≤ (x13_1 : Int) := zW (by first | (with_reducible assumption) | assumption); have q13 : (x13_1 : Int) < ((x5_1.length : Int) : Int) := zW (by first | (with_reducible assumption) | assumption); obtain ⟨go13, co13, eo13, gb13, gl13, cl13, HG13⟩ := Kd.R_form HO_5.out (by omega); (first | cases eo13 | (injection eo13 with ea_ en_ ec_; (first | subst ea_ | (injection ea_ with ea_; subst ea_)); subst ec_; clear en_)); have GB13 := zA gb13; have GG13 := zA HG13; clear gb13 gl13 HG13; (first | simp only [add_plain] at hx28_0 | skip); obtain ⟨hx13_0, hf13_0⟩ := Kd.R_celln (⟨#[]⟩ : ByteArray) HO_5.out (x13_1 : Int) p13 q13; replace p13 := eq_true p13; replace q13 := eq_true q13; obtain ⟨hy16_, hz16_⟩ := Kd.R_celln (⟨#[]⟩ : ByteArray) HO_5.out (x13_1 : Int) (zW (by first | (with_reducible assumption) | assumption)) (zW (by first | (with_reducible assumption) | assumption)); have HP16 := Kd.R_putg HO_5.out (x13_1 : Int) t24) | ((with_reducible refine gate_store (t := 9) (p := 26) rfl ?_); refine store_event (t := 9) (p := 26) (v := ?vo_w17) (w1 := (w15.setCell ⟨go13, (x13_1 : Int).toNat, none⟩ (.string t24))) ?hg ?ho ?hn ?hr ?_; (case ho => rfl); (case hg => rfl); (case hn => rfl); (case hr => first | (go_simp; done) | (go_simp; rfl)); intro w17 hw; have hg : w15.grownBy w17 (some go13) := (by rw [hw]; exact HP16.2); have hp_ : Kd.R Kd.string 9 w17 w.heap.size (fun _ => True) (.slice (some ⟨go13, 0, none⟩) x5_1.length co14) y26 := (by rw [hw, Ny26.out]; exact HP16.1); clear HP16; have n0_ := zA (hp_); have n1_ := zA (Kd.R_over' (v := (.slice (some ⟨go13, 0, none⟩) x5_1.length co14)) (by (with_reducible repeat first | apply zQ | apply zR | apply zS); exact HO_11.out) (Kd.R_typed HO_5.out) (by decide) hg); have n2_ := zA ((by rw [hw]; exact zI (HB.out) GB13.out : Below w.heap.size w w17)); clear HO_5; clear HO_11; clear HB; have HO_5 := n0_; have HO_11 := n1_; have HB := n2_; clear n0_ n1_ n2_; clear hg hw hp_)); go_roundg k1
       case measure => have := HK1.out; omega
       case rel => exact ⟨(y26), (wrap64 (x13_1 + 1)), (by first | rfl | (simp; done) | (simp [*]; done) | (simp [bne]; done)), H', ⟨by have := HK1.out; omega⟩, ⟨by (with_reducible repeat first | apply zQ | apply zR | apply zS); exact HO_5.out⟩, ⟨by (with_reducible repeat first | apply zQ | apply zR | apply zS); exact HO_11.out⟩, ⟨by (with_reducible repeat first | exact HB.out | apply zH | apply zF | apply zG) <;> exact HB.out⟩⟩
      ·rw [if_neg c11] at H
       exact absurd H (by simp)
     ·rw [if_neg c10] at H
      exact absurd H (by simp)
    ·rw [if_neg c9] at H
     exact absurd H (by simp)
   ·rw [if_neg c8] at H
    have c8b0 : decide (x13_1 < (t19.length : Int)) = false := decide_eq_false c8; clear c8; obtain rfl := yM H; go_wp2; go_ret; exact ⟨_, by first | rfl | (simp <;> rfl) | (simp [*] <;> rfl), by (with_reducible repeat first | apply zQ | apply zR | apply zS); exact HO_5.out, by (with_reducible repeat first | exact HB.out | apply zH | apply zF | apply zG) <;> exact HB.out⟩
def impl_SealText.j0 : Nat → ByteArray → Bool → ByteArray → Int → Option (ByteArray × Int × Int × List ByteArray × List ByteArray × Bool)
 | 0, _, _, _, _ => none
 | k + 1, x1, x22, x10, x11 => if x22 = true then (some ((⟨#[]⟩ : ByteArray), 0, 0, ([] : List ByteArray), ([] : List ByteArray), false)) else ((impl_way.f k x10 x11).bind fun bt12 => ((impl_seedOf.f x10 x11).bind fun t13 => ((impl_sign.f k t13 x1).bind fun t14 => (some (x10, wrap64 (x11 + 1), x11, t14, bt12.1, true)))))
def impl_SealText.f (k : Nat) (a0_0 : ByteArray) (a0_1 : Int) (a1 : ByteArray) : Option (ByteArray × Int × Int × List ByteArray × List ByteArray × Bool) := (impl_GoodSigner.f a0_0 a0_1).bind fun t10 => (if t10 = true then (if a0_1 = 8 then (impl_SealText.j0 k a1 true a0_0 a0_1) else (impl_SealText.j0 k a1 (decide ((a1.size : Int) > 200)) a0_0 a0_1)) else (impl_SealText.j0 k a1 true a0_0 a0_1))
def impl_SealText.T4 : Bool × List (List Nat × List Nat) := (true, [([], []), ([0], [0]), ([], []), ([2], [2]), ([], []), ([4], [4]), ([3, 5], [3, 5]), ([], []), ([6, 7, 6], [6, 7]), ([], []), ([1, 8, 9], [1, 8, 9]), ([], []), ([11, 10, 8, 0, 1, 2, 3, 4, 5, 6, 7, 8, 9, 10, 11], [10, 11])])
def impl_SealText.B4 : List Nat := [0, 1, 0, 4, 0, 16, 60, 0, 252, 0, 1023, 0, 4095]
theorem impl_SealText.tab4 : rtab .any (opsOf Try.f25 4) = impl_SealText.T4 := by kernel_rfl
theorem impl_SealText.bits4 : waitsOk impl_SealText.T4.2 impl_SealText.B4 = true := by kernel_rfl
def impl_SealText.T5 : Bool × List (List Nat × List Nat) := (true, [([], []), ([0], [0]), ([], []), ([2], [2]), ([3], [3]), ([1, 4], [1, 4]), ([], []), ([5, 0, 1, 2, 3, 4, 5], [5]), ([6, 7, 0, 1, 2, 3, 4, 5, 6, 7], [6]), ([8, 0, 1, 2, 3, 4, 5, 6, 7, 8], [])])
def impl_SealText.B5 : List Nat := [0, 1, 0, 4, 12, 31, 0, 63, 255, 511]
theorem impl_SealText.tab5 : rtab .any (opsOf Try.f25 5) = impl_SealText.T5 := by kernel_rfl
theorem impl_SealText.bits5 : waitsOk impl_SealText.T5.2 impl_SealText.B5 = true := by kernel_rfl
theorem impl_SealText.calls (k : Nat) (a0_0 : ByteArray) (a0_1 : Int) (a1 : ByteArray) (r1 : ByteArray) (r2 : Int) (r3 : Int) (r4 : List ByteArray) (r5 : List ByteArray) (r6 : Bool) (w : World) (h : impl_SealText.f k a0_0 a0_1 a1 = some (r1, r2, r3, r4, r5, r6)) :
  Calls Try.prog 25 #[.agg #[.string a0_0, .int .i64 a0_1], .string a1] w fun e w' => ∃ v3_ v4_ : Value, e = .returned (.tuple #[.agg #[.string r1, .int .i64 r2], .agg #[.int .i64 r3, v3_, v4_], .bool r6]) ∧ Kd.R Kd.string 9 w' w.heap.size (fun k_ => some k_ ≠ (v4_ : Value).ownBlock) v3_ r4 ∧ Kd.R Kd.string 9 w' w.heap.size (fun k_ => some k_ ≠ (v3_ : Value).ownBlock) v4_ r5 ∧ Below w.heap.size w w' := by
 have hu45 := Try.underlying45; have hu47 := Try.underlying47; have HB := zA (Below.refl w.heap.size w); have H : ((impl_GoodSigner.f a0_0 a0_1).bind fun t55 => (if t55 = true then (if a0_1 = 8 then (impl_SealText.j0 k a1 true a0_0 a0_1) else (impl_SealText.j0 k a1 (decide ((a1.size : Int) > 200)) a0_0 a0_1)) else (impl_SealText.j0 k a1 true a0_0 a0_1))) = some (r1, r2, r3, r4, r5, r6) := h; clear h; have HC3 := zA H; clear H; go_enter Try.func25, Try.ntmps25; go_upto_region 1 with (first | ((with_reducible refine gate_dst (N := 2) rfl ?_); (try (refine gate_guard (by rfl) ?_; dsimp only)); refine box_event ?hg (N := 2) ?hd (cs := #[.string a0_0, .int .i64 a0_1]) (t := 45) ?hr ?_; (case hd => rfl); (case hg => rfl); (case hr => first | (go_simp; done) | (go_simp; rfl)); intro gb56 hg w4 hbox hb; have n0_ := zA (zAD (by (with_reducible repeat first | exact HB.out | apply zH | apply zF | apply zG) <;> exact HB.out) hb); have n1_ := zA (hbox); have n2_ := zA ((by rw [hg]; exact (zAE (by (with_reducible repeat first | exact HB.out | apply zH | apply zF | apply zG) <;> exact HB.out)) : w.heap.size ≤ gb56)); have n3_ := zA ((by rw [hg]; exact (zAE (by (with_reducible repeat first | exact HB.out | apply zH | apply zF | apply zG) <;> exact HB.out)) : w.heap.size ≤ gb56)); clear HB; have HB := n0_; have BK56 := n1_; have GW56 := n2_; have GE56 := n3_; clear n0_ n1_ n2_ n3_; clear hb hbox hg) | ((with_reducible refine gate_dst (N := 4) rfl ?_); (try (refine gate_guard (by rfl) ?_; dsimp only)); refine box_event ?hg (N := 4) ?hd (cs := #[.string (⟨#[]⟩ : ByteArray), .int .i64 0]) (t := 45) ?hr ?_; (case hd => rfl); (case hg => rfl); (case hr => first | (go_simp; done) | (go_simp; rfl)); intro gb57 hg w5 hbox hb; have n0_ := zA (yE (g := gb56) (o := .cells #[.string a0_0, .int .i64 a0_1] 45 (0, 0)) (by (with_reducible repeat (first | refine zL ?_ _ | refine zN ?_ | refine zM ?_ _)); exact BK56.out) hb); have n1_ := zA (zAD (by repeat (first | (with_reducible first | exact HB.out | apply zH | apply zF | apply zG | refine zI ?_ GE56.out) | exact HB.out)) hb); have n2_ := zA (hbox); have n3_ := zA ((by rw [hg]; exact (zAE (by repeat (first | (with_reducible first | exact HB.out | apply zH | apply zF | apply zG | refine zI ?_ GE56.out) | exact HB.out))) : w.heap.size ≤ gb57)); have n4_ := zA ((by rw [hg]; exact (zAE (by repeat (first | (with_reducible first | exact HB.out | apply zH | apply zF | apply zG | refine zI ?_ GE56.out) | exact HB.out))) : w.heap.size ≤ gb57)); have n5_ := zA ((by rw [hg]; exact zK (blk_lt (g := gb56) (o := .cells #[.string a0_0, .int .i64 a0_1] 45 (0, 0)) (by (with_reducible repeat (first | refine zL ?_ _ | refine zN ?_ | refine zM ?_ _)); exact BK56.out)) : gb56 ≠ gb57)); have n6_ := zA ((by rw [hg]; exact Nat.ne_of_gt (blk_lt (g := gb56) (o := .cells #[.string a0_0, .int .i64 a0_1] 45 (0, 0)) (by (with_reducible repeat (first | refine zL ?_ _ | refine zN ?_ | refine zM ?_ _)); exact BK56.out)) : gb57 ≠ gb56)); clear BK56; clear HB; have BK56 := n0_; have HB := n1_; have BK57 := n2_; have GW57 := n3_; have GE57 := n4_; have NB56_57 := n5_; have NB57_56 := n6_; clear n0_ n1_ n2_ n3_ n4_ n5_ n6_; clear hb hbox hg) | ((with_reducible refine gate_dst (N := 5) rfl ?_); (try (refine gate_guard (by rfl) ?_; dsimp only)); refine box_event ?hg (N := 5) ?hd (cs := #[.int .i64 0, .slice none 0 0, .slice none 0 0]) (t := 47) ?hr ?_; (case hd => rfl); (case hg => rfl); (case hr => first | (go_simp; done) | (go_simp; rfl)); intro gb58 hg w6 hbox hb; have n0_ := zA (yE (g := gb56) (o := .cells #[.string a0_0, .int .i64 a0_1] 45 (0, 0)) (by (with_reducible repeat (first | refine zL ?_ _ | refine zN ?_ | refine zM ?_ _)); exact BK56.out) hb); have n1_ := zA (yE (g := gb57) (o := .cells #[.string (⟨#[]⟩ : ByteArray), .int .i64 0] 45 (0, 0)) (by (with_reducible repeat (first | refine zL ?_ _ | refine zN ?_ | refine zM ?_ _)); exact BK57.out) hb); have n2_ := zA (zAD (by repeat (first | (with_reducible first | exact HB.out | apply zH | apply zF | apply zG | refine zI ?_ GE56.out | refine zI ?_ GE57.out) | exact HB.out)) hb); have n3_ := zA (hbox); have n4_ := zA ((by rw [hg]; exact (zAE (by repeat (first | (with_reducible first | exact HB.out | apply zH | apply zF | apply zG | refine zI ?_ GE56.out | refine zI ?_ GE57.out) | exact HB.out))) : w.heap.size ≤ gb58)); have n5_ := zA ((by rw [hg]; exact (zAE (by repeat (first | (with_reducible first | exact HB.out | apply zH | apply zF | apply zG | refine zI ?_ GE56.out | refine zI ?_ GE57.out) | exact HB.out))) : w.heap.size ≤ gb58)); have n6_ := zA ((by rw [hg]; exact zK (blk_lt (g := gb56) (o := .cells #[.string a0_0, .int .i64 a0_1] 45 (0, 0)) (by (with_reducible repeat (first | refine zL ?_ _ | refine zN ?_ | refine zM ?_ _)); exact BK56.out)) : gb56 ≠ gb58)); have n7_ := zA ((by rw [hg]; exact Nat.ne_of_gt (blk_lt (g := gb56) (o := .cells #[.string a0_0, .int .i64 a0_1] 45 (0, 0)) (by (with_reducible repeat (first | refine zL ?_ _ | refine zN ?_ | refine zM ?_ _)); exact BK56.out)) : gb58 ≠ gb56)); have n8_ := zA ((by rw [hg]; exact zK (blk_lt (g := gb57) (o := .cells #[.string (⟨#[]⟩ : ByteArray), .int .i64 0] 45 (0, 0)) (by (with_reducible repeat (first | refine zL ?_ _ | refine zN ?_ | refine zM ?_ _)); exact BK57.out)) : gb57 ≠ gb58)); have n9_ := zA ((by rw [hg]; exact Nat.ne_of_gt (blk_lt (g := gb57) (o := .cells #[.string (⟨#[]⟩ : ByteArray), .int .i64 0] 45 (0, 0)) (by (with_reducible repeat (first | refine zL ?_ _ | refine zN ?_ | refine zM ?_ _)); exact BK57.out)) : gb58 ≠ gb57)); clear BK56; clear BK57; clear HB; have BK56 := n0_; have BK57 := n1_; have HB := n2_; have BK58 := n3_; have GW58 := n4_; have GE58 := n5_; have NB56_58 := n6_; have NB58_56 := n7_; have NB57_58 := n8_; have NB58_57 := n9_; clear n0_ n1_ n2_ n3_ n4_ n5_ n6_ n7_ n8_ n9_; clear hb hbox hg))
 (try simp only [Act.put, zC, zD, zE]); go_cut [22] (fun v22 wc => ∃ (kq : Nat) (x22_2 : Bool), v22 = .bool x22_2 ∧ Aside0 (impl_SealText.j0 kq a1 x22_2 a0_0 a0_1 = some (r1, r2, r3, r4, r5, r6)) ∧ Aside0 (kq ≤ k) ∧ Aside0 (wc.heap[gb56]? = some (.cells #[.string a0_0, .int .i64 a0_1] 45 (0, 0))) ∧ Aside0 (wc.heap[gb57]? = some (.cells #[.string (⟨#[]⟩ : ByteArray), .int .i64 0] 45 (0, 0))) ∧ Aside0 (wc.heap[gb58]? = some (.cells #[.int .i64 0, (.slice none 0 0), (.slice none 0 0)] 47 (0, 0))) ∧ Aside0 (Below w.heap.size w wc))
 case first =>
  have H := HC3.out; clear HC3; replace H := zAF H; obtain ⟨t55, A70, H⟩ := H; replace H : (if t55 = true then (if a0_1 = 8 then (impl_SealText.j0 k a1 true a0_0 a0_1) else (impl_SealText.j0 k a1 (decide ((a1.size : Int) > 200)) a0_0 a0_1)) else (impl_SealText.j0 k a1 true a0_0 a0_1)) = some (r1, r2, r3, r4, r5, r6) := H; have A7 := zA A70; clear A70
  by_cases c8 : t55 = true
  ·subst c8
   have H1 : (if a0_1 = 8 then (impl_SealText.j0 k a1 true a0_0 a0_1) else (impl_SealText.j0 k a1 (decide ((a1.size : Int) > 200)) a0_0 a0_1)) = some (r1, r2, r3, r4, r5, r6) := by rw [if_pos rfl] at H; exact H
   clear H; have H := H1; clear H1
   by_cases c9 : a0_1 = 8
   ·rw [if_pos c9] at H
    have c9b0 : (a0_1 == 8) = true := beq_iff_eq.mpr c9; have c9b1 : (a0_1 != 8) = false := bne_eq_false_iff_eq.mpr c9; clear c9; (first | rw [c9b0] | (simp only [i64_w, i32_w]; rw [c9b0]) | skip); have H' := zA H; clear H; have hnb10 := NB56_57.out; have hnc10 := NB57_56.out; have hnb11 := NB56_58.out; have hnc11 := NB58_56.out; have hcz12_0 := yL BK56.out 0 (.string a0_0) rfl; have hcz12_1 := yL BK56.out 1 (.int .i64 a0_1) rfl; have hfz12_0 := zO BK56.out 0; have hfz12_1 := zO BK56.out 1; go_wp2_with (first | ((with_reducible refine yB (f := 83) rfl ?_); refine goesL_ (some 11) rfl rfl Try.func83 (by kernel_rfl) rfl #[.agg #[.string a0_0, .int .i64 a0_1]] rfl (by (try simp only [zAA, zAB, zAC]); first | done | rfl) ?_; (with_reducible refine (impl_GoodSigner.calls a0_0 a0_1 true _ A7.out).mono ?_); rintro e w13 ⟨rfl, hb⟩; refine ⟨_, rfl, ?_⟩; have n0_ := zA (yE (g := gb56) (o := .cells #[.string a0_0, .int .i64 a0_1] 45 (0, 0)) (by (with_reducible repeat (first | refine zL ?_ _ | refine zN ?_ | refine zM ?_ _)); exact BK56.out) hb); have n1_ := zA (yE (g := gb57) (o := .cells #[.string (⟨#[]⟩ : ByteArray), .int .i64 0] 45 (0, 0)) (by (with_reducible repeat (first | refine zL ?_ _ | refine zN ?_ | refine zM ?_ _)); exact BK57.out) hb); have n2_ := zA (yE (g := gb58) (o := .cells #[.int .i64 0, .slice none 0 0, .slice none 0 0] 47 (0, 0)) (by (with_reducible repeat (first | refine zL ?_ _ | refine zN ?_ | refine zM ?_ _)); exact BK58.out) hb); have n3_ := zA (zAD (by repeat (first | (with_reducible first | exact HB.out | apply zH | apply zF | apply zG | refine zI ?_ GE56.out | refine zI ?_ GE57.out | refine zI ?_ GE58.out) | exact HB.out)) hb); clear BK56; clear BK57; clear BK58; clear HB; have BK56 := n0_; have BK57 := n1_; have BK58 := n2_; have HB := n3_; clear n0_ n1_ n2_ n3_; (try clear hb); have hcz14_0 := yL BK56.out 0 (.string a0_0) rfl; have hcz14_1 := yL BK56.out 1 (.int .i64 a0_1) rfl; have hfz14_0 := zO BK56.out 0; have hfz14_1 := zO BK56.out 1)); go_meet
    case rel => exact ⟨_, (true), (by first | rfl | (simp; done) | (simp [*]; done) | (simp [bne]; done)), H', ⟨by first | omega | exact Nat.le_refl _⟩, ⟨by (with_reducible repeat (first | refine zL ?_ _ | refine zN ?_ | refine zM ?_ _)); exact BK56.out⟩, ⟨by (with_reducible repeat (first | refine zL ?_ _ | refine zN ?_ | refine zM ?_ _)); exact BK57.out⟩, ⟨by (with_reducible repeat (first | refine zL ?_ _ | refine zN ?_ | refine zM ?_ _)); exact BK58.out⟩, ⟨by repeat (first | (with_reducible first | exact HB.out | apply zH | apply zF | apply zG | refine zI ?_ GE56.out | refine zI ?_ GE57.out | refine zI ?_ GE58.out) | exact HB.out)⟩⟩
   ·rw [if_neg c9] at H
    have c9b0 : (a0_1 == 8) = false := beq_eq_false_iff_ne.mpr c9; have c9b1 : (a0_1 != 8) = true := bne_iff_ne.mpr c9; (first | rw [c9b0] | (simp only [i64_w, i32_w]; rw [c9b0]) | skip); have H' := zA H; clear H; have hnb15 := NB56_57.out; have hnc15 := NB57_56.out; have hnb16 := NB56_58.out; have hnc16 := NB58_56.out; have hcz17_0 := yL BK56.out 0 (.string a0_0) rfl; have hcz17_1 := yL BK56.out 1 (.int .i64 a0_1) rfl; have hfz17_0 := zO BK56.out 0; have hfz17_1 := zO BK56.out 1; go_wp2_with (first | ((with_reducible refine yB (f := 83) rfl ?_); refine goesL_ (some 11) rfl rfl Try.func83 (by kernel_rfl) rfl #[.agg #[.string a0_0, .int .i64 a0_1]] rfl (by (try simp only [zAA, zAB, zAC]); first | done | rfl) ?_; (with_reducible refine (impl_GoodSigner.calls a0_0 a0_1 true _ A7.out).mono ?_); rintro e w18 ⟨rfl, hb⟩; refine ⟨_, rfl, ?_⟩; have n0_ := zA (yE (g := gb56) (o := .cells #[.string a0_0, .int .i64 a0_1] 45 (0, 0)) (by (with_reducible repeat (first | refine zL ?_ _ | refine zN ?_ | refine zM ?_ _)); exact BK56.out) hb); have n1_ := zA (yE (g := gb57) (o := .cells #[.string (⟨#[]⟩ : ByteArray), .int .i64 0] 45 (0, 0)) (by (with_reducible repeat (first | refine zL ?_ _ | refine zN ?_ | refine zM ?_ _)); exact BK57.out) hb); have n2_ := zA (yE (g := gb58) (o := .cells #[.int .i64 0, .slice none 0 0, .slice none 0 0] 47 (0, 0)) (by (with_reducible repeat (first | refine zL ?_ _ | refine zN ?_ | refine zM ?_ _)); exact BK58.out) hb); have n3_ := zA (zAD (by repeat (first | (with_reducible first | exact HB.out | apply zH | apply zF | apply zG | refine zI ?_ GE56.out | refine zI ?_ GE57.out | refine zI ?_ GE58.out) | exact HB.out)) hb); clear BK56; clear BK57; clear BK58; clear HB; have BK56 := n0_; have BK57 := n1_; have BK58 := n2_; have HB := n3_; clear n0_ n1_ n2_ n3_; (try clear hb); have hcz19_0 := yL BK56.out 0 (.string a0_0) rfl; have hcz19_1 := yL BK56.out 1 (.int .i64 a0_1) rfl; have hfz19_0 := zO BK56.out 0; have hfz19_1 := zO BK56.out 1)); go_meet
    case rel => exact ⟨_, (decide ((a1.size : Int) > 200)), (by first | rfl | (simp; done) | (simp [*]; done) | (simp [bne]; done)), H', ⟨by first | omega | exact Nat.le_refl _⟩, ⟨by (with_reducible repeat (first | refine zL ?_ _ | refine zN ?_ | refine zM ?_ _)); exact BK56.out⟩, ⟨by (with_reducible repeat (first | refine zL ?_ _ | refine zN ?_ | refine zM ?_ _)); exact BK57.out⟩, ⟨by (with_reducible repeat (first | refine zL ?_ _ | refine zN ?_ | refine zM ?_ _)); exact BK58.out⟩, ⟨by repeat (first | (with_reducible first | exact HB.out | apply zH | apply zF | apply zG | refine zI ?_ GE56.out | refine zI ?_ GE57.out | refine zI ?_ GE58.out) | exact HB.out)⟩⟩
  ·replace c8 := yO c8
   subst c8; have H1 : (impl_SealText.j0 k a1 true a0_0 a0_1) = some (r1, r2, r3, r4, r5, r6) := by rw [if_neg (show ¬ (false = true) by decide)] at H; exact H
   clear H; have H := H1; clear H1; have H' := zA H; clear H; have hnb20 := NB56_57.out; have hnc20 := NB57_56.out; have hnb21 := NB56_58.out; have hnc21 := NB58_56.out; have hcz22_0 := yL BK56.out 0 (.string a0_0) rfl; have hcz22_1 := yL BK56.out 1 (.int .i64 a0_1) rfl; have hfz22_0 := zO BK56.out 0; have hfz22_1 := zO BK56.out 1; go_wp2_with (first | ((with_reducible refine yB (f := 83) rfl ?_); refine goesL_ (some 11) rfl rfl Try.func83 (by kernel_rfl) rfl #[.agg #[.string a0_0, .int .i64 a0_1]] rfl (by (try simp only [zAA, zAB, zAC]); first | done | rfl) ?_; (with_reducible refine (impl_GoodSigner.calls a0_0 a0_1 false _ A7.out).mono ?_); rintro e w23 ⟨rfl, hb⟩; refine ⟨_, rfl, ?_⟩; have n0_ := zA (yE (g := gb56) (o := .cells #[.string a0_0, .int .i64 a0_1] 45 (0, 0)) (by (with_reducible repeat (first | refine zL ?_ _ | refine zN ?_ | refine zM ?_ _)); exact BK56.out) hb); have n1_ := zA (yE (g := gb57) (o := .cells #[.string (⟨#[]⟩ : ByteArray), .int .i64 0] 45 (0, 0)) (by (with_reducible repeat (first | refine zL ?_ _ | refine zN ?_ | refine zM ?_ _)); exact BK57.out) hb); have n2_ := zA (yE (g := gb58) (o := .cells #[.int .i64 0, .slice none 0 0, .slice none 0 0] 47 (0, 0)) (by (with_reducible repeat (first | refine zL ?_ _ | refine zN ?_ | refine zM ?_ _)); exact BK58.out) hb); have n3_ := zA (zAD (by repeat (first | (with_reducible first | exact HB.out | apply zH | apply zF | apply zG | refine zI ?_ GE56.out | refine zI ?_ GE57.out | refine zI ?_ GE58.out) | exact HB.out)) hb); clear BK56; clear BK57; clear BK58; clear HB; have BK56 := n0_; have BK57 := n1_; have BK58 := n2_; have HB := n3_; clear n0_ n1_ n2_ n3_; (try clear hb))); go_meet
   case rel => exact ⟨_, (true), (by first | rfl | (simp; done) | (simp [*]; done) | (simp [bne]; done)), H', ⟨by first | omega | exact Nat.le_refl _⟩, ⟨by (with_reducible repeat (first | refine zL ?_ _ | refine zN ?_ | refine zM ?_ _)); exact BK56.out⟩, ⟨by (with_reducible repeat (first | refine zL ?_ _ | refine zN ?_ | refine zM ?_ _)); exact BK57.out⟩, ⟨by (with_reducible repeat (first | refine zL ?_ _ | refine zN ?_ | refine zM ?_ _)); exact BK58.out⟩, ⟨by repeat (first | (with_reducible first | exact HB.out | apply zH | apply zF | apply zG | refine zI ?_ GE56.out | refine zI ?_ GE57.out | refine zI ?_ GE58.out) | exact HB.out)⟩⟩
 case rest =>
  clear HC3
  try clear c1
  try clear c2
  try clear p2
  try clear c8
  try clear c9
  try clear c9b0
  try clear c9b1
  try clear c10
  try clear c11
  try clear c15
  try clear c16
  try clear c20
  try clear c21
  try clear hcz12_0
  try clear hcz12_1
  try clear hcz14_0
  try clear hcz14_1
  try clear hcz17_0
  try clear hcz17_1
  try clear hcz19_0
  try clear hcz19_1
  try clear hcz22_0
  try clear hcz22_1
  try clear hfz12_0
  try clear hfz12_1
  try clear hfz14_0
  try clear hfz14_1
  try clear hfz17_0
  try clear hfz17_1
  try clear hfz19_0
  try clear hfz19_1
  try clear hfz22_0
  try clear hfz22_1
  obtain ⟨kq, x22_2, rfl, HA, HJ2, BK56, BK57, BK58, HB⟩ := hcut
  cases kq with
  | zero => exact absurd HA.out (by simp [impl_SealText.j0])
  | succ kj2 =>
   have H := HA.out; clear HA; simp only [impl_SealText.j0] at H
   by_cases c24 : x22_2 = true
   ·subst c24
    have H1 : (some ((⟨#[]⟩ : ByteArray), 0, 0, ([] : List ByteArray), ([] : List ByteArray), false)) = some (r1, r2, r3, r4, r5, r6) := by rw [if_pos rfl] at H; exact H
    clear H; have H := H1; clear H1; simp only [Option.some.injEq, Prod.mk.injEq] at H; obtain ⟨rfl, rfl, rfl, rfl, rfl, rfl⟩ := H; have hnb25 := NB57_56.out; have hnc25 := NB56_57.out; have hnb26 := NB57_58.out; have hnc26 := NB58_57.out; have hcz27_0 := yL BK57.out 0 (.string (⟨#[]⟩ : ByteArray)) rfl; have hcz27_1 := yL BK57.out 1 (.int .i64 0) rfl; have hfz27_0 := zO BK57.out 0; have hfz27_1 := zO BK57.out 1; have hnb28 := NB58_56.out; have hnc28 := NB56_58.out; have hcz29_0 := yL BK58.out 0 (.int .i64 0) rfl; have hcz29_1 := yL BK58.out 1 (.slice none 0 0) rfl; have hcz29_2 := yL BK58.out 2 (.slice none 0 0) rfl; have hfz29_0 := zO BK58.out 0; have hfz29_1 := zO BK58.out 1; have hfz29_2 := zO BK58.out 2; go_wp2; refine bodyPost_ret (results_list (rs := [.cell 4 45, .cell 5 47, .tmp 6]) rfl (by simp) (.cell gb57 45 #[.string (⟨#[]⟩ : ByteArray), .int .i64 0] (0, 0) _ rfl (by (with_reducible repeat (first | refine zL ?_ _ | refine zN ?_ | refine zM ?_ _)); refine blk_far ?_ NB57_58.out _; (with_reducible repeat (first | refine zL ?_ _ | refine zN ?_ | refine zM ?_ _)); refine blk_far ?_ NB57_58.out _; (with_reducible repeat (first | refine zL ?_ _ | refine zN ?_ | refine zM ?_ _)); refine blk_far ?_ NB57_58.out _; (with_reducible repeat (first | refine zL ?_ _ | refine zN ?_ | refine zM ?_ _)); refine blk_put (cs := #[.string (⟨#[]⟩ : ByteArray), .int .i64 0]) ?_ 1 _ rfl; (with_reducible repeat (first | refine zL ?_ _ | refine zN ?_ | refine zM ?_ _)); refine blk_put (cs := #[.string (⟨#[]⟩ : ByteArray), .int .i64 0]) ?_ 0 _ rfl; (with_reducible repeat (first | refine zL ?_ _ | refine zN ?_ | refine zM ?_ _)); exact BK57.out) Try.underlying45 rfl (by kernel_rfl) (.cell gb58 47 #[.int .i64 0, .slice none 0 0, .slice none 0 0] (0, 0) _ rfl (by (with_reducible repeat (first | refine zL ?_ _ | refine zN ?_ | refine zM ?_ _)); refine blk_put (cs := #[.int .i64 0, .slice none 0 0, .slice none 0 0]) ?_ 2 _ rfl; (with_reducible repeat (first | refine zL ?_ _ | refine zN ?_ | refine zM ?_ _)); refine blk_put (cs := #[.int .i64 0, .slice none 0 0, .slice none 0 0]) ?_ 1 _ rfl; (with_reducible repeat (first | refine zL ?_ _ | refine zN ?_ | refine zM ?_ _)); refine blk_put (cs := #[.int .i64 0, .slice none 0 0, .slice none 0 0]) ?_ 0 _ rfl; (with_reducible repeat (first | refine zL ?_ _ | refine zN ?_ | refine zM ?_ _)); refine blk_far ?_ NB58_57.out _; (with_reducible repeat (first | refine zL ?_ _ | refine zN ?_ | refine zM ?_ _)); refine blk_far ?_ NB58_57.out _; (with_reducible repeat (first | refine zL ?_ _ | refine zN ?_ | refine zM ?_ _)); exact BK58.out) Try.underlying47 rfl (by kernel_rfl) (.tmp .nil)))) rfl ?_; exact ⟨_, _, by first | rfl | (simp <;> rfl) | (simp [*] <;> rfl), by first | exact Kd.R_nil _ _ _ _ _ | exact Kd.N_nil _ _ _ _ _ | exact Kd.V_nil _ _ _ _ _ | exact Kd.Q_nil _ _ _ _ _ | exact Kd.S_nil _ _ _ _ _, by first | exact Kd.R_nil _ _ _ _ _ | exact Kd.N_nil _ _ _ _ _ | exact Kd.V_nil _ _ _ _ _ | exact Kd.Q_nil _ _ _ _ _ | exact Kd.S_nil _ _ _ _ _, by repeat (first | (with_reducible first | exact HB.out | apply zH | apply zF | apply zG | refine zI ?_ GE56.out | refine zI ?_ GE57.out | refine zI ?_ GE58.out) | exact HB.out)⟩
   ·replace c24 := yO c24
    subst c24; have H1 : ((impl_way.f kj2 a0_0 a0_1).bind fun bt59 => ((impl_seedOf.f a0_0 a0_1).bind fun t60 => ((impl_sign.f kj2 t60 a1).bind fun t61 => (some (a0_0, wrap64 (a0_1 + 1), a0_1, t61, bt59.1, true))))) = some (r1, r2, r3, r4, r5, r6) := by rw [if_neg (show ¬ (false = true) by decide)] at H; exact H
    clear H; have H := H1; clear H1; replace H := zAF H; obtain ⟨⟨t59, t62⟩, A63, H⟩ := H; replace H : ((impl_seedOf.f a0_0 a0_1).bind fun t60 => ((impl_sign.f kj2 t60 a1).bind fun t61 => (some (a0_0, wrap64 (a0_1 + 1), a0_1, t61, t59, true)))) = some (r1, r2, r3, r4, r5, r6) := H; have A30 := zA A63; clear A63; replace H := zAF H; obtain ⟨t60, A65, H⟩ := H; replace H : ((impl_sign.f kj2 t60 a1).bind fun t61 => (some (a0_0, wrap64 (a0_1 + 1), a0_1, t61, t59, true))) = some (r1, r2, r3, r4, r5, r6) := H; have A31 := zA A65; clear A65; replace H := zAF H; obtain ⟨t61, A66, H⟩ := H; replace H : (some (a0_0, wrap64 (a0_1 + 1), a0_1, t61, t59, true)) = some (r1, r2, r3, r4, r5, r6) := H; have A32 := zA A66; clear A66; simp only [Option.some.injEq, Prod.mk.injEq] at H; obtain ⟨rfl, rfl, rfl, rfl, rfl, rfl⟩ := H; have hnb33 := NB56_57.out; have hnc33 := NB57_56.out; have hnb34 := NB56_58.out; have hnc34 := NB58_56.out; have hcz35_0 := yL BK56.out 0 (.string a0_0) rfl; have hcz35_1 := yL BK56.out 1 (.int .i64 a0_1) rfl; have hfz35_0 := zO BK56.out 0; have hfz35_1 := zO BK56.out 1
    try go_wp2_with (first | ((with_reducible refine yB (f := 84) rfl ?_); refine goesL_ (some 30) rfl rfl Try.func84 (by kernel_rfl) rfl #[.string a0_0, .int .i64 a0_1] rfl (by (try simp only [zAA, zAB, zAC]); first | done | rfl) ?_; (with_reducible refine (impl_way.calls kj2 a0_0 a0_1 t59 t62 _ A30.out).mono ?_); rintro e w36 ⟨v67, rfl, ho0, hb⟩; refine ⟨_, rfl, ?_⟩; have n0_ := zA (Kd.R_lower ho0 (zAE (by repeat (first | (with_reducible first | exact HB.out | apply zH | apply zF | apply zG | refine zI ?_ GE56.out | refine zI ?_ GE57.out | refine zI ?_ GE58.out) | exact HB.out)))); have n1_ := zA (yE (g := gb56) (o := .cells #[.string a0_0, .int .i64 a0_1] 45 (0, 0)) (by (with_reducible repeat (first | refine zL ?_ _ | refine zN ?_ | refine zM ?_ _)); exact BK56.out) hb); have n2_ := zA (yE (g := gb57) (o := .cells #[.string (⟨#[]⟩ : ByteArray), .int .i64 0] 45 (0, 0)) (by (with_reducible repeat (first | refine zL ?_ _ | refine zN ?_ | refine zM ?_ _)); exact BK57.out) hb); have n3_ := zA (yE (g := gb58) (o := .cells #[.int .i64 0, .slice none 0 0, .slice none 0 0] 47 (0, 0)) (by (with_reducible repeat (first | refine zL ?_ _ | refine zN ?_ | refine zM ?_ _)); exact BK58.out) hb); have n4_ := zA (zAD (by repeat (first | (with_reducible first | exact HB.out | apply zH | apply zF | apply zG | refine zI ?_ GE56.out | refine zI ?_ GE57.out | refine zI ?_ GE58.out) | exact HB.out)) hb); clear BK56; clear BK57; clear BK58; clear HB; have HO68 := n0_; have BK56 := n1_; have BK57 := n2_; have BK58 := n3_; have HB := n4_; clear n0_ n1_ n2_ n3_ n4_; (try clear hb); (try clear ho0)))
    have n0_ := zA (zS HO68.out); have n1_ := zA (zN BK56.out); have n2_ := zA (zN BK57.out); have n3_ := zA (zN BK58.out); have n4_ := zA (zG HB.out); clear HO68 BK56 BK57 BK58 HB; have HO68 := n0_; have BK56 := n1_; have BK57 := n2_; have BK58 := n3_; have HB := n4_; clear n0_ n1_ n2_ n3_ n4_; refine start_ (n := 13) (S := fun w' => w'.cell? ⟨gb56, 0, none⟩ = some (.string a0_0) ∧ w'.cell? ⟨gb56, 1, none⟩ = some (.int .i64 a0_1)) (ds := []) #[false, false, false, false, false, false, false, false, false, false, false, false, false] (by kernel_rfl) rfl rfl ⟨(zP BK56.out 0).trans rfl, (zP BK56.out 1).trans rfl⟩ (fun hHeld => ?_); refine with_tabW impl_SealText.tab4 impl_SealText.bits4 (fun HT_ HW_ => ?_); generalize w36.drew = w37 at HO68 BK56 BK57 BK58 HB hHeld ⊢; refine pure_ (i := 0) (N := some 33) (v := ?_) (a' := ?_) #[true, false, false, false, false, false, false, false, false, false, false, false, false] rfl rfl (any_of HT_.out (by kernel_rfl)) (fun _ _ _ h => h) (Or.inl ⟨by rfl, ?_⟩) ?_ ?_; rotate_left
    ·intro w'
     go_simp
     with_reducible rfl
    rotate_left
    ·simp only [Act.put, zC, zD, zE, i64_w]
     rfl
    refine pure_ (i := 2) (N := some 35) (v := ?_) (a' := ?_) #[true, false, true, false, false, false, false, false, false, false, false, false, false] rfl rfl (any_of HT_.out (by kernel_rfl)) (fun _ _ _ h => h) (Or.inl ⟨by rfl, ?_⟩) ?_ ?_; rotate_left
    ·intro w'
     go_simp
     with_reducible rfl
    rotate_left
    ·simp only [Act.put, zC, zD, zE, i64_w]
     rfl
    refine pure_ (i := 4) (N := some 37) (v := ?_) (a' := ?_) #[true, false, true, false, true, false, false, false, false, false, false, false, false] rfl rfl (any_of HT_.out (by kernel_rfl)) (fun _ _ _ h => h) (Or.inl ⟨by rfl, ?_⟩) ?_ ?_; rotate_left
    ·intro w'
     go_simp
     with_reducible rfl
    rotate_left
    ·simp only [Act.put, zC, zD, zE, i64_w]
     rfl
    refine pure_ (i := 7) (N := some 40) (v := ?_) (a' := ?_) #[true, false, true, false, true, false, false, true, false, false, false, false, false] rfl rfl (any_of HT_.out (by kernel_rfl)) (fun _ _ _ h => h) (Or.inl ⟨by rfl, ?_⟩) ?_ ?_; rotate_left
    ·intro w'
     go_simp
     with_reducible rfl
    rotate_left
    ·simp only [Act.put, zC, zD, zE, i64_w]
     rfl
    refine pure_ (i := 9) (N := some 42) (v := ?_) (a' := ?_) #[true, false, true, false, true, false, false, true, false, true, false, false, false] rfl rfl (any_of HT_.out (by kernel_rfl)) (fun _ _ _ h => h) (Or.inl ⟨by rfl, ?_⟩) ?_ ?_; rotate_left
    ·intro w'
     go_simp
     with_reducible rfl
    rotate_left
    ·simp only [Act.put, zC, zD, zE, i64_w]
     rfl
    refine take_ (i := 1) (N := some 34) (v := ?_) (a' := ?_) #[true, true, true, false, true, false, false, true, false, true, false, false, false] rfl rfl (take_ofW HT_.out HW_.out (by kernel_rfl)) (fun _ _ _ h => h) (Or.inl ⟨by rfl, ?_⟩) hHeld ?_ ?_; rotate_left
    ·rintro w' ⟨s0, s1⟩
     go_simp
     with_reducible rfl
    rotate_left
    ·simp only [Act.put, zC, zD, zE, i64_w]
     rfl
    refine take_ (i := 3) (N := some 36) (v := ?_) (a' := ?_) #[true, true, true, true, true, false, false, true, false, true, false, false, false] rfl rfl (take_ofW HT_.out HW_.out (by kernel_rfl)) (fun _ _ _ h => h) (Or.inl ⟨by rfl, ?_⟩) hHeld ?_ ?_; rotate_left
    ·rintro w' ⟨s0, s1⟩
     go_simp
     with_reducible rfl
    rotate_left
    ·simp only [Act.put, zC, zD, zE, i64_w]
     rfl
    refine take_ (i := 5) (N := some 38) (v := ?_) (a' := ?_) #[true, true, true, true, true, true, false, true, false, true, false, false, false] rfl rfl (take_ofW HT_.out HW_.out (by kernel_rfl)) (fun _ _ _ h => h) (Or.inl ⟨by rfl, ?_⟩) hHeld ?_ ?_; rotate_left
    ·rintro w' ⟨s0, s1⟩
     go_simp
     with_reducible rfl
    rotate_left
    ·simp only [Act.put, zC, zD, zE, i64_w]
     rfl
    obtain ⟨Ao40, co40, eo40⟩ := Kd.R_slice HO68.out; subst eo40; refine join_ (σ := Value × Nat) 1 #[true, true, true, true, true, true, true, true, true, true, true, true, false] (fun s_ => [(39, .string t60), (41, s_.1), (9, .pointer (some ⟨s_.2, 0, none⟩)), (43, .agg #[.int .i64 a0_1, s_.1, .slice Ao40 t59.length co40])]) (fun s_ w' => (w'.cell? ⟨gb56, 0, none⟩ = some (.string a0_0) ∧ w'.cell? ⟨gb56, 1, none⟩ = some (.int .i64 a0_1)) ∧ (Kd.R Kd.string 9 w' w.heap.size (fun k_ => some k_ ≠ (s_.1 : Value).ownBlock) (.slice Ao40 t59.length co40) t59) ∧ (Kd.R Kd.string 9 w' w.heap.size (fun k_ => some k_ ≠ (.slice Ao40 t59.length co40 : Value).ownBlock) s_.1 t61) ∧ (w'.heap[gb56]? = some (.cells #[.string a0_0, .int .i64 a0_1] 45 (0, 0))) ∧ (w'.heap[gb57]? = some (.cells #[.string (⟨#[]⟩ : ByteArray), .int .i64 0] 45 (0, 0))) ∧ (w'.heap[gb58]? = some (.cells #[.int .i64 0, .slice none 0 0, .slice none 0 0] 47 (0, 0))) ∧ (w'.heap[s_.2]? = some (.cells #[.int .i64 0, .slice none 0 0, .slice none 0 0] 47 (0, 0))) ∧ (w.heap.size ≤ s_.2) ∧ (w.heap.size ≤ s_.2) ∧ (gb56 ≠ s_.2) ∧ (s_.2 ≠ gb56) ∧ (gb57 ≠ s_.2) ∧ (s_.2 ≠ gb57) ∧ (gb58 ≠ s_.2) ∧ (s_.2 ≠ gb58) ∧ (Below w.heap.size w w')) ?_ ?_; rotate_left
    ·intro hCont
     refine two_ (i := 6) (j := 11) (Ni := some 39) (Nj := some 9) #[true, true, true, true, true, true, true, true, false, true, false, false, false] #[true, true, true, true, true, true, false, true, false, true, false, true, false] rfl rfl rfl rfl (two_of HT_.out (by kernel_rfl)) (by decide) (by decide) (fun K hK => ?_) (fun K hK => ?_)
     ·skip
      refine goes_ Try.func86 (by kernel_rfl) rfl #[.string a0_0, .int .i64 a0_1] (by rfl) rfl rfl (by (try simp only [zAA, zAB, zAC]); first | done | rfl) ?_
      with_reducible refine (impl_seedOf.calls a0_0 a0_1 t60 _ A31.out).mono ?_
      rintro e w38 ⟨rfl, hb⟩; refine ⟨_, rfl, ?_⟩; have n0_ := zA (Kd.R_below (by (with_reducible repeat first | apply zQ | apply zR | apply zS); exact HO68.out) hb); have n1_ := zA (yE (g := gb56) (o := .cells #[.string a0_0, .int .i64 a0_1] 45 (0, 0)) (by (with_reducible repeat (first | refine zL ?_ _ | refine zN ?_ | refine zM ?_ _)); exact BK56.out) hb); have n2_ := zA (yE (g := gb57) (o := .cells #[.string (⟨#[]⟩ : ByteArray), .int .i64 0] 45 (0, 0)) (by (with_reducible repeat (first | refine zL ?_ _ | refine zN ?_ | refine zM ?_ _)); exact BK57.out) hb); have n3_ := zA (yE (g := gb58) (o := .cells #[.int .i64 0, .slice none 0 0, .slice none 0 0] 47 (0, 0)) (by (with_reducible repeat (first | refine zL ?_ _ | refine zN ?_ | refine zM ?_ _)); exact BK58.out) hb); have n4_ := zA (zAD (by repeat (first | (with_reducible first | exact HB.out | apply zH | apply zF | apply zG | refine zI ?_ GE56.out | refine zI ?_ GE57.out | refine zI ?_ GE58.out) | exact HB.out)) hb); clear HO68 BK56 BK57 BK58 HB; have HO68 := n0_; have BK56 := n1_; have BK57 := n2_; have BK58 := n3_; have HB := n4_; clear n0_ n1_ n2_ n3_ n4_; (try clear hb); refine hK.out _ _ ⟨(zP BK56.out 0).trans rfl, (zP BK56.out 1).trans rfl⟩ (fun hHeld => ?_); clear hK K; refine norm_ (a' := ?_) ?_ ?_; rotate_left
      ·show Act.put _ (some 39) _ = _
       simp only [Act.put, zC, zD, zE, i64_w]; rfl
      refine two_ (i := 8) (j := 11) (Ni := some 41) (Nj := some 9) #[true, true, true, true, true, true, true, true, true, true, false, false, false] #[true, true, true, true, true, true, true, true, false, true, false, true, false] rfl rfl rfl rfl (two_of HT_.out (by kernel_rfl)) (by decide) (by decide) (fun K hK => ?_) (fun K hK => ?_)
      ·skip
       refine goes_ Try.func85 (by kernel_rfl) rfl #[.string t60, .string a1] (by rfl) rfl rfl (by (try simp only [zAA, zAB, zAC]); first | done | rfl) ?_
       with_reducible refine (impl_sign.calls kj2 t60 a1 t61 _ A32.out).mono ?_
       rintro e w39 ⟨v69, rfl, ho0, hb⟩; refine ⟨_, rfl, ?_⟩; have n0_ := zA (yJ (by (with_reducible repeat first | apply zQ | apply zR | apply zS); exact HO68.out) (Kd.R_base ho0) hb); have n1_ := zA (Kd.R_lower (yK ho0 (Kd.R_lt (by (with_reducible repeat first | apply zQ | apply zR | apply zS); exact HO68.out))) (zAE (by repeat (first | (with_reducible first | exact HB.out | apply zH | apply zF | apply zG | refine zI ?_ GE56.out | refine zI ?_ GE57.out | refine zI ?_ GE58.out) | exact HB.out)))); have n2_ := zA (yE (g := gb56) (o := .cells #[.string a0_0, .int .i64 a0_1] 45 (0, 0)) (by (with_reducible repeat (first | refine zL ?_ _ | refine zN ?_ | refine zM ?_ _)); exact BK56.out) hb); have n3_ := zA (yE (g := gb57) (o := .cells #[.string (⟨#[]⟩ : ByteArray), .int .i64 0] 45 (0, 0)) (by (with_reducible repeat (first | refine zL ?_ _ | refine zN ?_ | refine zM ?_ _)); exact BK57.out) hb); have n4_ := zA (yE (g := gb58) (o := .cells #[.int .i64 0, .slice none 0 0, .slice none 0 0] 47 (0, 0)) (by (with_reducible repeat (first | refine zL ?_ _ | refine zN ?_ | refine zM ?_ _)); exact BK58.out) hb); have n5_ := zA (zAD (by repeat (first | (with_reducible first | exact HB.out | apply zH | apply zF | apply zG | refine zI ?_ GE56.out | refine zI ?_ GE57.out | refine zI ?_ GE58.out) | exact HB.out)) hb); clear HO68 BK56 BK57 BK58 HB; have HO68 := n0_; have HO71 := n1_; have BK56 := n2_; have BK57 := n3_; have BK58 := n4_; have HB := n5_; clear n0_ n1_ n2_ n3_ n4_ n5_; (try clear hb); (try clear ho0); obtain ⟨Ao40, co40, eo40⟩ := Kd.R_slice HO68.out; (first | subst eo40 | (injection eo40 with f1_ f2_ f3_; have f4_ := f1_.symm; have f5_ := f3_.symm; clear f1_ f2_ f3_; subst f4_; subst f5_)); obtain ⟨Ao41, co41, eo41⟩ := Kd.R_slice HO71.out; (first | subst eo41 | (injection eo41 with f1_ f2_ f3_; have f4_ := f1_.symm; have f5_ := f3_.symm; clear f1_ f2_ f3_; subst f4_; subst f5_)); refine hK.out _ _ ⟨(zP BK56.out 0).trans rfl, (zP BK56.out 1).trans rfl⟩ (fun hHeld => ?_); clear hK K; refine norm_ (a' := ?_) ?_ ?_; rotate_left
       ·show Act.put _ (some 41) _ = _
        simp only [Act.put, zC, zD, zE, i64_w]; rfl
       refine pure_ (i := 10) (N := some 43) (v := ?_) (a' := ?_) #[true, true, true, true, true, true, true, true, true, true, true, false, false] rfl rfl (any_of HT_.out (by kernel_rfl)) (fun _ _ _ h => h) (Or.inl ⟨by rfl, ?_⟩) ?_ ?_; rotate_left
       ·intro w'
        go_simp
        with_reducible rfl
       rotate_left
       ·simp only [Act.put, zC, zD, zE, i64_w]
        rfl
       refine one_ (i := 11) (N := some 9) #[true, true, true, true, true, true, true, true, true, true, true, true, false] rfl rfl (one_of HT_.out (by kernel_rfl)) (by decide) (fun K hK => ?_); refine box_step ?hg (N := 9) ?hd (cs := #[.int .i64 0, .slice none 0 0, .slice none 0 0]) (t := 47) ?hr ?_; (case hd => rfl); (case hg => rfl); (case hr => first | (go_simp; done) | (go_simp; rfl)); intro gb72 hg w42 hbox hb; have n0_ := zA (Kd.R_below (by (with_reducible repeat first | apply zQ | apply zR | apply zS); exact HO68.out) hb); have n1_ := zA (Kd.R_below (by (with_reducible repeat first | apply zQ | apply zR | apply zS); exact HO71.out) hb); have n2_ := zA (yE (g := gb56) (o := .cells #[.string a0_0, .int .i64 a0_1] 45 (0, 0)) (by (with_reducible repeat (first | refine zL ?_ _ | refine zN ?_ | refine zM ?_ _)); exact BK56.out) hb); have n3_ := zA (yE (g := gb57) (o := .cells #[.string (⟨#[]⟩ : ByteArray), .int .i64 0] 45 (0, 0)) (by (with_reducible repeat (first | refine zL ?_ _ | refine zN ?_ | refine zM ?_ _)); exact BK57.out) hb); have n4_ := zA (yE (g := gb58) (o := .cells #[.int .i64 0, .slice none 0 0, .slice none 0 0] 47 (0, 0)) (by (with_reducible repeat (first | refine zL ?_ _ | refine zN ?_ | refine zM ?_ _)); exact BK58.out) hb); have n5_ := zA (zAD (by repeat (first | (with_reducible first | exact HB.out | apply zH | apply zF | apply zG | refine zI ?_ GE56.out | refine zI ?_ GE57.out | refine zI ?_ GE58.out) | exact HB.out)) hb); have n6_ := zA (hbox); have n7_ := zA ((by rw [hg]; exact (zAE (by repeat (first | (with_reducible first | exact HB.out | apply zH | apply zF | apply zG | refine zI ?_ GE56.out | refine zI ?_ GE57.out | refine zI ?_ GE58.out) | exact HB.out))) : w.heap.size ≤ gb72)); have n8_ := zA ((by rw [hg]; exact (zAE (by repeat (first | (with_reducible first | exact HB.out | apply zH | apply zF | apply zG | refine zI ?_ GE56.out | refine zI ?_ GE57.out | refine zI ?_ GE58.out) | exact HB.out))) : w.heap.size ≤ gb72)); have n9_ := zA ((by rw [hg]; exact zK (blk_lt (g := gb56) (o := .cells #[.string a0_0, .int .i64 a0_1] 45 (0, 0)) (by (with_reducible repeat (first | refine zL ?_ _ | refine zN ?_ | refine zM ?_ _)); exact BK56.out)) : gb56 ≠ gb72)); have n10_ := zA ((by rw [hg]; exact Nat.ne_of_gt (blk_lt (g := gb56) (o := .cells #[.string a0_0, .int .i64 a0_1] 45 (0, 0)) (by (with_reducible repeat (first | refine zL ?_ _ | refine zN ?_ | refine zM ?_ _)); exact BK56.out)) : gb72 ≠ gb56)); have n11_ := zA ((by rw [hg]; exact zK (blk_lt (g := gb57) (o := .cells #[.string (⟨#[]⟩ : ByteArray), .int .i64 0] 45 (0, 0)) (by (with_reducible repeat (first | refine zL ?_ _ | refine zN ?_ | refine zM ?_ _)); exact BK57.out)) : gb57 ≠ gb72)); have n12_ := zA ((by rw [hg]; exact Nat.ne_of_gt (blk_lt (g := gb57) (o := .cells #[.string (⟨#[]⟩ : ByteArray), .int .i64 0] 45 (0, 0)) (by (with_reducible repeat (first | refine zL ?_ _ | refine zN ?_ | refine zM ?_ _)); exact BK57.out)) : gb72 ≠ gb57)); have n13_ := zA ((by rw [hg]; exact zK (blk_lt (g := gb58) (o := .cells #[.int .i64 0, .slice none 0 0, .slice none 0 0] 47 (0, 0)) (by (with_reducible repeat (first | refine zL ?_ _ | refine zN ?_ | refine zM ?_ _)); exact BK58.out)) : gb58 ≠ gb72)); have n14_ := zA ((by rw [hg]; exact Nat.ne_of_gt (blk_lt (g := gb58) (o := .cells #[.int .i64 0, .slice none 0 0, .slice none 0 0] 47 (0, 0)) (by (with_reducible repeat (first | refine zL ?_ _ | refine zN ?_ | refine zM ?_ _)); exact BK58.out)) : gb72 ≠ gb58)); clear HO68 HO71 BK56 BK57 BK58 HB; have HO68 := n0_; have HO71 := n1_; have BK56 := n2_; have BK57 := n3_; have BK58 := n4_; have HB := n5_; have BK72 := n6_; have GW72 := n7_; have GE72 := n8_; have NB56_72 := n9_; have NB72_56 := n10_; have NB57_72 := n11_; have NB72_57 := n12_; have NB58_72 := n13_; have NB72_58 := n14_; clear n0_ n1_ n2_ n3_ n4_ n5_ n6_ n7_ n8_ n9_ n10_ n11_ n12_ n13_ n14_ hb hbox hg; refine hK.out _ _ ⟨(zP BK56.out 0).trans rfl, (zP BK56.out 1).trans rfl⟩ (fun hHeld => ?_); clear hK K; refine norm_ (a' := ?_) ?_ ?_; rotate_left
       ·show Act.put _ (some 9) _ = _
        simp only [Act.put, zC, zD, zE, i64_w]; rfl
       exact norm_ (by simp only [putAll, Act.put, zC, zD, zE]) (hCont (.slice Ao41 t61.length co41, gb72) _ ⟨hHeld, (by (with_reducible repeat first | apply zQ | apply zR | apply zS); exact yC HO68.out (fun _ hk => hk.2)), (by (with_reducible repeat first | apply zQ | apply zR | apply zS); exact yC HO71.out (fun _ hk => hk.2)), (by (with_reducible repeat (first | refine zL ?_ _ | refine zN ?_ | refine zM ?_ _)); exact BK56.out), (by (with_reducible repeat (first | refine zL ?_ _ | refine zN ?_ | refine zM ?_ _)); exact BK57.out), (by (with_reducible repeat (first | refine zL ?_ _ | refine zN ?_ | refine zM ?_ _)); exact BK58.out), (by (with_reducible repeat (first | refine zL ?_ _ | refine zN ?_ | refine zM ?_ _)); exact BK72.out), GW72.out, GE72.out, NB56_72.out, NB72_56.out, NB57_72.out, NB72_57.out, NB58_72.out, NB72_58.out, (by repeat (first | (with_reducible first | exact HB.out | apply zH | apply zF | apply zG | refine zI ?_ GE56.out | refine zI ?_ GE57.out | refine zI ?_ GE58.out | refine zI ?_ GE72.out) | exact HB.out))⟩)
      ·skip
       refine box_step ?hg (N := 9) ?hd (cs := #[.int .i64 0, .slice none 0 0, .slice none 0 0]) (t := 47) ?hr ?_; (case hd => rfl); (case hg => rfl); (case hr => first | (go_simp; done) | (go_simp; rfl)); intro gb72 hg w39 hbox hb; have n0_ := zA (Kd.R_below (by (with_reducible repeat first | apply zQ | apply zR | apply zS); exact HO68.out) hb); have n1_ := zA (yE (g := gb56) (o := .cells #[.string a0_0, .int .i64 a0_1] 45 (0, 0)) (by (with_reducible repeat (first | refine zL ?_ _ | refine zN ?_ | refine zM ?_ _)); exact BK56.out) hb); have n2_ := zA (yE (g := gb57) (o := .cells #[.string (⟨#[]⟩ : ByteArray), .int .i64 0] 45 (0, 0)) (by (with_reducible repeat (first | refine zL ?_ _ | refine zN ?_ | refine zM ?_ _)); exact BK57.out) hb); have n3_ := zA (yE (g := gb58) (o := .cells #[.int .i64 0, .slice none 0 0, .slice none 0 0] 47 (0, 0)) (by (with_reducible repeat (first | refine zL ?_ _ | refine zN ?_ | refine zM ?_ _)); exact BK58.out) hb); have n4_ := zA (zAD (by repeat (first | (with_reducible first | exact HB.out | apply zH | apply zF | apply zG | refine zI ?_ GE56.out | refine zI ?_ GE57.out | refine zI ?_ GE58.out) | exact HB.out)) hb); have n5_ := zA (hbox); have n6_ := zA ((by rw [hg]; exact (zAE (by repeat (first | (with_reducible first | exact HB.out | apply zH | apply zF | apply zG | refine zI ?_ GE56.out | refine zI ?_ GE57.out | refine zI ?_ GE58.out) | exact HB.out))) : w.heap.size ≤ gb72)); have n7_ := zA ((by rw [hg]; exact (zAE (by repeat (first | (with_reducible first | exact HB.out | apply zH | apply zF | apply zG | refine zI ?_ GE56.out | refine zI ?_ GE57.out | refine zI ?_ GE58.out) | exact HB.out))) : w.heap.size ≤ gb72)); have n8_ := zA ((by rw [hg]; exact zK (blk_lt (g := gb56) (o := .cells #[.string a0_0, .int .i64 a0_1] 45 (0, 0)) (by (with_reducible repeat (first | refine zL ?_ _ | refine zN ?_ | refine zM ?_ _)); exact BK56.out)) : gb56 ≠ gb72)); have n9_ := zA ((by rw [hg]; exact Nat.ne_of_gt (blk_lt (g := gb56) (o := .cells #[.string a0_0, .int .i64 a0_1] 45 (0, 0)) (by (with_reducible repeat (first | refine zL ?_ _ | refine zN ?_ | refine zM ?_ _)); exact BK56.out)) : gb72 ≠ gb56)); have n10_ := zA ((by rw [hg]; exact zK (blk_lt (g := gb57) (o := .cells #[.string (⟨#[]⟩ : ByteArray), .int .i64 0] 45 (0, 0)) (by (with_reducible repeat (first | refine zL ?_ _ | refine zN ?_ | refine zM ?_ _)); exact BK57.out)) : gb57 ≠ gb72)); have n11_ := zA ((by rw [hg]; exact Nat.ne_of_gt (blk_lt (g := gb57) (o := .cells #[.string (⟨#[]⟩ : ByteArray), .int .i64 0] 45 (0, 0)) (by (with_reducible repeat (first | refine zL ?_ _ | refine zN ?_ | refine zM ?_ _)); exact BK57.out)) : gb72 ≠ gb57)); have n12_ := zA ((by rw [hg]; exact zK (blk_lt (g := gb58) (o := .cells #[.int .i64 0, .slice none 0 0, .slice none 0 0] 47 (0, 0)) (by (with_reducible repeat (first | refine zL ?_ _ | refine zN ?_ | refine zM ?_ _)); exact BK58.out)) : gb58 ≠ gb72)); have n13_ := zA ((by rw [hg]; exact Nat.ne_of_gt (blk_lt (g := gb58) (o := .cells #[.int .i64 0, .slice none 0 0, .slice none 0 0] 47 (0, 0)) (by (with_reducible repeat (first | refine zL ?_ _ | refine zN ?_ | refine zM ?_ _)); exact BK58.out)) : gb72 ≠ gb58)); clear HO68 BK56 BK57 BK58 HB; have HO68 := n0_; have BK56 := n1_; have BK57 := n2_; have BK58 := n3_; have HB := n4_; have BK72 := n5_; have GW72 := n6_; have GE72 := n7_; have NB56_72 := n8_; have NB72_56 := n9_; have NB57_72 := n10_; have NB72_57 := n11_; have NB58_72 := n12_; have NB72_58 := n13_; clear n0_ n1_ n2_ n3_ n4_ n5_ n6_ n7_ n8_ n9_ n10_ n11_ n12_ n13_ hb hbox hg; refine hK.out _ _ ⟨(zP BK56.out 0).trans rfl, (zP BK56.out 1).trans rfl⟩ (fun hHeld => ?_); clear hK K; refine norm_ (a' := ?_) ?_ ?_; rotate_left
       ·show Act.put _ (some 9) _ = _
        simp only [Act.put, zC, zD, zE, i64_w]; rfl
       refine one_ (i := 8) (N := some 41) #[true, true, true, true, true, true, true, true, true, true, false, true, false] rfl rfl (one_of HT_.out (by kernel_rfl)) (by decide) (fun K hK => ?_); refine goes_ Try.func85 (by kernel_rfl) rfl #[.string t60, .string a1] (by rfl) rfl rfl (by (try simp only [zAA, zAB, zAC]); first | done | rfl) ?_
       with_reducible refine (impl_sign.calls kj2 t60 a1 t61 _ A32.out).mono ?_
       rintro e w40 ⟨v69, rfl, ho0, hb⟩; refine ⟨_, rfl, ?_⟩; have n0_ := zA (yJ (by (with_reducible repeat first | apply zQ | apply zR | apply zS); exact HO68.out) (Kd.R_base ho0) hb); have n1_ := zA (Kd.R_lower (yK ho0 (Kd.R_lt (by (with_reducible repeat first | apply zQ | apply zR | apply zS); exact HO68.out))) (zAE (by repeat (first | (with_reducible first | exact HB.out | apply zH | apply zF | apply zG | refine zI ?_ GE56.out | refine zI ?_ GE57.out | refine zI ?_ GE58.out | refine zI ?_ GE72.out) | exact HB.out)))); have n2_ := zA (yE (g := gb56) (o := .cells #[.string a0_0, .int .i64 a0_1] 45 (0, 0)) (by (with_reducible repeat (first | refine zL ?_ _ | refine zN ?_ | refine zM ?_ _)); exact BK56.out) hb); have n3_ := zA (yE (g := gb57) (o := .cells #[.string (⟨#[]⟩ : ByteArray), .int .i64 0] 45 (0, 0)) (by (with_reducible repeat (first | refine zL ?_ _ | refine zN ?_ | refine zM ?_ _)); exact BK57.out) hb); have n4_ := zA (yE (g := gb58) (o := .cells #[.int .i64 0, .slice none 0 0, .slice none 0 0] 47 (0, 0)) (by (with_reducible repeat (first | refine zL ?_ _ | refine zN ?_ | refine zM ?_ _)); exact BK58.out) hb); have n5_ := zA (yE (g := gb72) (o := .cells #[.int .i64 0, .slice none 0 0, .slice none 0 0] 47 (0, 0)) (by (with_reducible repeat (first | refine zL ?_ _ | refine zN ?_ | refine zM ?_ _)); exact BK72.out) hb); have n6_ := zA (zAD (by repeat (first | (with_reducible first | exact HB.out | apply zH | apply zF | apply zG | refine zI ?_ GE56.out | refine zI ?_ GE57.out | refine zI ?_ GE58.out | refine zI ?_ GE72.out) | exact HB.out)) hb); clear HO68 BK56 BK57 BK58 BK72 HB; have HO68 := n0_; have HO71 := n1_; have BK56 := n2_; have BK57 := n3_; have BK58 := n4_; have BK72 := n5_; have HB := n6_; clear n0_ n1_ n2_ n3_ n4_ n5_ n6_; (try clear hb); (try clear ho0); obtain ⟨Ao41, co41, eo41⟩ := Kd.R_slice HO68.out; (first | subst eo41 | (injection eo41 with f1_ f2_ f3_; have f4_ := f1_.symm; have f5_ := f3_.symm; clear f1_ f2_ f3_; subst f4_; subst f5_)); obtain ⟨Ao42, co42, eo42⟩ := Kd.R_slice HO71.out; (first | subst eo42 | (injection eo42 with f1_ f2_ f3_; have f4_ := f1_.symm; have f5_ := f3_.symm; clear f1_ f2_ f3_; subst f4_; subst f5_)); refine hK.out _ _ ⟨(zP BK56.out 0).trans rfl, (zP BK56.out 1).trans rfl⟩ (fun hHeld => ?_); clear hK K; refine norm_ (a' := ?_) ?_ ?_; rotate_left
       ·show Act.put _ (some 41) _ = _
        simp only [Act.put, zC, zD, zE, i64_w]; rfl
       refine pure_ (i := 10) (N := some 43) (v := ?_) (a' := ?_) #[true, true, true, true, true, true, true, true, true, true, true, true, false] rfl rfl (any_of HT_.out (by kernel_rfl)) (fun _ _ _ h => h) (Or.inl ⟨by rfl, ?_⟩) ?_ ?_; rotate_left
       ·intro w'
        go_simp
        with_reducible rfl
       rotate_left
       ·simp only [Act.put, zC, zD, zE, i64_w]
        rfl
       exact norm_ (by simp only [putAll, Act.put, zC, zD, zE]) (hCont (.slice Ao42 t61.length co42, gb72) _ ⟨hHeld, (by (with_reducible repeat first | apply zQ | apply zR | apply zS); exact yC HO68.out (fun _ hk => hk.2)), (by (with_reducible repeat first | apply zQ | apply zR | apply zS); exact yC HO71.out (fun _ hk => hk.2)), (by (with_reducible repeat (first | refine zL ?_ _ | refine zN ?_ | refine zM ?_ _)); exact BK56.out), (by (with_reducible repeat (first | refine zL ?_ _ | refine zN ?_ | refine zM ?_ _)); exact BK57.out), (by (with_reducible repeat (first | refine zL ?_ _ | refine zN ?_ | refine zM ?_ _)); exact BK58.out), (by (with_reducible repeat (first | refine zL ?_ _ | refine zN ?_ | refine zM ?_ _)); exact BK72.out), GW72.out, GE72.out, NB56_72.out, NB72_56.out, NB57_72.out, NB72_57.out, NB58_72.out, NB72_58.out, (by repeat (first | (with_reducible first | exact HB.out | apply zH | apply zF | apply zG | refine zI ?_ GE56.out | refine zI ?_ GE57.out | refine zI ?_ GE58.out | refine zI ?_ GE72.out) | exact HB.out))⟩)
     ·skip
      refine box_step ?hg (N := 9) ?hd (cs := #[.int .i64 0, .slice none 0 0, .slice none 0 0]) (t := 47) ?hr ?_; (case hd => rfl); (case hg => rfl); (case hr => first | (go_simp; done) | (go_simp; rfl)); intro gb72 hg w38 hbox hb; have n0_ := zA (Kd.R_below (by (with_reducible repeat first | apply zQ | apply zR | apply zS); exact HO68.out) hb); have n1_ := zA (yE (g := gb56) (o := .cells #[.string a0_0, .int .i64 a0_1] 45 (0, 0)) (by (with_reducible repeat (first | refine zL ?_ _ | refine zN ?_ | refine zM ?_ _)); exact BK56.out) hb); have n2_ := zA (yE (g := gb57) (o := .cells #[.string (⟨#[]⟩ : ByteArray), .int .i64 0] 45 (0, 0)) (by (with_reducible repeat (first | refine zL ?_ _ | refine zN ?_ | refine zM ?_ _)); exact BK57.out) hb); have n3_ := zA (yE (g := gb58) (o := .cells #[.int .i64 0, .slice none 0 0, .slice none 0 0] 47 (0, 0)) (by (with_reducible repeat (first | refine zL ?_ _ | refine zN ?_ | refine zM ?_ _)); exact BK58.out) hb); have n4_ := zA (zAD (by repeat (first | (with_reducible first | exact HB.out | apply zH | apply zF | apply zG | refine zI ?_ GE56.out | refine zI ?_ GE57.out | refine zI ?_ GE58.out) | exact HB.out)) hb); have n5_ := zA (hbox); have n6_ := zA ((by rw [hg]; exact (zAE (by repeat (first | (with_reducible first | exact HB.out | apply zH | apply zF | apply zG | refine zI ?_ GE56.out | refine zI ?_ GE57.out | refine zI ?_ GE58.out) | exact HB.out))) : w.heap.size ≤ gb72)); have n7_ := zA ((by rw [hg]; exact (zAE (by repeat (first | (with_reducible first | exact HB.out | apply zH | apply zF | apply zG | refine zI ?_ GE56.out | refine zI ?_ GE57.out | refine zI ?_ GE58.out) | exact HB.out))) : w.heap.size ≤ gb72)); have n8_ := zA ((by rw [hg]; exact zK (blk_lt (g := gb56) (o := .cells #[.string a0_0, .int .i64 a0_1] 45 (0, 0)) (by (with_reducible repeat (first | refine zL ?_ _ | refine zN ?_ | refine zM ?_ _)); exact BK56.out)) : gb56 ≠ gb72)); have n9_ := zA ((by rw [hg]; exact Nat.ne_of_gt (blk_lt (g := gb56) (o := .cells #[.string a0_0, .int .i64 a0_1] 45 (0, 0)) (by (with_reducible repeat (first | refine zL ?_ _ | refine zN ?_ | refine zM ?_ _)); exact BK56.out)) : gb72 ≠ gb56)); have n10_ := zA ((by rw [hg]; exact zK (blk_lt (g := gb57) (o := .cells #[.string (⟨#[]⟩ : ByteArray), .int .i64 0] 45 (0, 0)) (by (with_reducible repeat (first | refine zL ?_ _ | refine zN ?_ | refine zM ?_ _)); exact BK57.out)) : gb57 ≠ gb72)); have n11_ := zA ((by rw [hg]; exact Nat.ne_of_gt (blk_lt (g := gb57) (o := .cells #[.string (⟨#[]⟩ : ByteArray), .int .i64 0] 45 (0, 0)) (by (with_reducible repeat (first | refine zL ?_ _ | refine zN ?_ | refine zM ?_ _)); exact BK57.out)) : gb72 ≠ gb57)); have n12_ := zA ((by rw [hg]; exact zK (blk_lt (g := gb58) (o := .cells #[.int .i64 0, .slice none 0 0, .slice none 0 0] 47 (0, 0)) (by (with_reducible repeat (first | refine zL ?_ _ | refine zN ?_ | refine zM ?_ _)); exact BK58.out)) : gb58 ≠ gb72)); have n13_ := zA ((by rw [hg]; exact Nat.ne_of_gt (blk_lt (g := gb58) (o := .cells #[.int .i64 0, .slice none 0 0, .slice none 0 0] 47 (0, 0)) (by (with_reducible repeat (first | refine zL ?_ _ | refine zN ?_ | refine zM ?_ _)); exact BK58.out)) : gb72 ≠ gb58)); clear HO68 BK56 BK57 BK58 HB; have HO68 := n0_; have BK56 := n1_; have BK57 := n2_; have BK58 := n3_; have HB := n4_; have BK72 := n5_; have GW72 := n6_; have GE72 := n7_; have NB56_72 := n8_; have NB72_56 := n9_; have NB57_72 := n10_; have NB72_57 := n11_; have NB58_72 := n12_; have NB72_58 := n13_; clear n0_ n1_ n2_ n3_ n4_ n5_ n6_ n7_ n8_ n9_ n10_ n11_ n12_ n13_ hb hbox hg; refine hK.out _ _ ⟨(zP BK56.out 0).trans rfl, (zP BK56.out 1).trans rfl⟩ (fun hHeld => ?_); clear hK K; refine norm_ (a' := ?_) ?_ ?_; rotate_left
      ·show Act.put _ (some 9) _ = _
       simp only [Act.put, zC, zD, zE, i64_w]; rfl
      refine one_ (i := 6) (N := some 39) #[true, true, true, true, true, true, true, true, false, true, false, true, false] rfl rfl (one_of HT_.out (by kernel_rfl)) (by decide) (fun K hK => ?_); refine goes_ Try.func86 (by kernel_rfl) rfl #[.string a0_0, .int .i64 a0_1] (by rfl) rfl rfl (by (try simp only [zAA, zAB, zAC]); first | done | rfl) ?_
      with_reducible refine (impl_seedOf.calls a0_0 a0_1 t60 _ A31.out).mono ?_
      rintro e w39 ⟨rfl, hb⟩; refine ⟨_, rfl, ?_⟩; have n0_ := zA (Kd.R_below (by (with_reducible repeat first | apply zQ | apply zR | apply zS); exact HO68.out) hb); have n1_ := zA (yE (g := gb56) (o := .cells #[.string a0_0, .int .i64 a0_1] 45 (0, 0)) (by (with_reducible repeat (first | refine zL ?_ _ | refine zN ?_ | refine zM ?_ _)); exact BK56.out) hb); have n2_ := zA (yE (g := gb57) (o := .cells #[.string (⟨#[]⟩ : ByteArray), .int .i64 0] 45 (0, 0)) (by (with_reducible repeat (first | refine zL ?_ _ | refine zN ?_ | refine zM ?_ _)); exact BK57.out) hb); have n3_ := zA (yE (g := gb58) (o := .cells #[.int .i64 0, .slice none 0 0, .slice none 0 0] 47 (0, 0)) (by (with_reducible repeat (first | refine zL ?_ _ | refine zN ?_ | refine zM ?_ _)); exact BK58.out) hb); have n4_ := zA (yE (g := gb72) (o := .cells #[.int .i64 0, .slice none 0 0, .slice none 0 0] 47 (0, 0)) (by (with_reducible repeat (first | refine zL ?_ _ | refine zN ?_ | refine zM ?_ _)); exact BK72.out) hb); have n5_ := zA (zAD (by repeat (first | (with_reducible first | exact HB.out | apply zH | apply zF | apply zG | refine zI ?_ GE56.out | refine zI ?_ GE57.out | refine zI ?_ GE58.out | refine zI ?_ GE72.out) | exact HB.out)) hb); clear HO68 BK56 BK57 BK58 BK72 HB; have HO68 := n0_; have BK56 := n1_; have BK57 := n2_; have BK58 := n3_; have BK72 := n4_; have HB := n5_; clear n0_ n1_ n2_ n3_ n4_ n5_; (try clear hb); refine hK.out _ _ ⟨(zP BK56.out 0).trans rfl, (zP BK56.out 1).trans rfl⟩ (fun hHeld => ?_); clear hK K; refine norm_ (a' := ?_) ?_ ?_; rotate_left
      ·show Act.put _ (some 39) _ = _
       simp only [Act.put, zC, zD, zE, i64_w]; rfl
      refine one_ (i := 8) (N := some 41) #[true, true, true, true, true, true, true, true, true, true, false, true, false] rfl rfl (one_of HT_.out (by kernel_rfl)) (by decide) (fun K hK => ?_); refine goes_ Try.func85 (by kernel_rfl) rfl #[.string t60, .string a1] (by rfl) rfl rfl (by (try simp only [zAA, zAB, zAC]); first | done | rfl) ?_
      with_reducible refine (impl_sign.calls kj2 t60 a1 t61 _ A32.out).mono ?_
      rintro e w40 ⟨v69, rfl, ho0, hb⟩; refine ⟨_, rfl, ?_⟩; have n0_ := zA (yJ (by (with_reducible repeat first | apply zQ | apply zR | apply zS); exact HO68.out) (Kd.R_base ho0) hb); have n1_ := zA (Kd.R_lower (yK ho0 (Kd.R_lt (by (with_reducible repeat first | apply zQ | apply zR | apply zS); exact HO68.out))) (zAE (by repeat (first | (with_reducible first | exact HB.out | apply zH | apply zF | apply zG | refine zI ?_ GE56.out | refine zI ?_ GE57.out | refine zI ?_ GE58.out | refine zI ?_ GE72.out) | exact HB.out)))); have n2_ := zA (yE (g := gb56) (o := .cells #[.string a0_0, .int .i64 a0_1] 45 (0, 0)) (by (with_reducible repeat (first | refine zL ?_ _ | refine zN ?_ | refine zM ?_ _)); exact BK56.out) hb); have n3_ := zA (yE (g := gb57) (o := .cells #[.string (⟨#[]⟩ : ByteArray), .int .i64 0] 45 (0, 0)) (by (with_reducible repeat (first | refine zL ?_ _ | refine zN ?_ | refine zM ?_ _)); exact BK57.out) hb); have n4_ := zA (yE (g := gb58) (o := .cells #[.int .i64 0, .slice none 0 0, .slice none 0 0] 47 (0, 0)) (by (with_reducible repeat (first | refine zL ?_ _ | refine zN ?_ | refine zM ?_ _)); exact BK58.out) hb); have n5_ := zA (yE (g := gb72) (o := .cells #[.int .i64 0, .slice none 0 0, .slice none 0 0] 47 (0, 0)) (by (with_reducible repeat (first | refine zL ?_ _ | refine zN ?_ | refine zM ?_ _)); exact BK72.out) hb); have n6_ := zA (zAD (by repeat (first | (with_reducible first | exact HB.out | apply zH | apply zF | apply zG | refine zI ?_ GE56.out | refine zI ?_ GE57.out | refine zI ?_ GE58.out | refine zI ?_ GE72.out) | exact HB.out)) hb); clear HO68 BK56 BK57 BK58 BK72 HB; have HO68 := n0_; have HO71 := n1_; have BK56 := n2_; have BK57 := n3_; have BK58 := n4_; have BK72 := n5_; have HB := n6_; clear n0_ n1_ n2_ n3_ n4_ n5_ n6_; (try clear hb); (try clear ho0); obtain ⟨Ao41, co41, eo41⟩ := Kd.R_slice HO68.out; (first | subst eo41 | (injection eo41 with f1_ f2_ f3_; have f4_ := f1_.symm; have f5_ := f3_.symm; clear f1_ f2_ f3_; subst f4_; subst f5_)); obtain ⟨Ao42, co42, eo42⟩ := Kd.R_slice HO71.out; (first | subst eo42 | (injection eo42 with f1_ f2_ f3_; have f4_ := f1_.symm; have f5_ := f3_.symm; clear f1_ f2_ f3_; subst f4_; subst f5_)); refine hK.out _ _ ⟨(zP BK56.out 0).trans rfl, (zP BK56.out 1).trans rfl⟩ (fun hHeld => ?_); clear hK K; refine norm_ (a' := ?_) ?_ ?_; rotate_left
      ·show Act.put _ (some 41) _ = _
       simp only [Act.put, zC, zD, zE, i64_w]; rfl
      refine pure_ (i := 10) (N := some 43) (v := ?_) (a' := ?_) #[true, true, true, true, true, true, true, true, true, true, true, true, false] rfl rfl (any_of HT_.out (by kernel_rfl)) (fun _ _ _ h => h) (Or.inl ⟨by rfl, ?_⟩) ?_ ?_; rotate_left
      ·intro w'
       go_simp
       with_reducible rfl
      rotate_left
      ·simp only [Act.put, zC, zD, zE, i64_w]
       rfl
      exact norm_ (by simp only [putAll, Act.put, zC, zD, zE]) (hCont (.slice Ao42 t61.length co42, gb72) _ ⟨hHeld, (by (with_reducible repeat first | apply zQ | apply zR | apply zS); exact yC HO68.out (fun _ hk => hk.2)), (by (with_reducible repeat first | apply zQ | apply zR | apply zS); exact yC HO71.out (fun _ hk => hk.2)), (by (with_reducible repeat (first | refine zL ?_ _ | refine zN ?_ | refine zM ?_ _)); exact BK56.out), (by (with_reducible repeat (first | refine zL ?_ _ | refine zN ?_ | refine zM ?_ _)); exact BK57.out), (by (with_reducible repeat (first | refine zL ?_ _ | refine zN ?_ | refine zM ?_ _)); exact BK58.out), (by (with_reducible repeat (first | refine zL ?_ _ | refine zN ?_ | refine zM ?_ _)); exact BK72.out), GW72.out, GE72.out, NB56_72.out, NB72_56.out, NB57_72.out, NB72_57.out, NB58_72.out, NB72_58.out, (by repeat (first | (with_reducible first | exact HB.out | apply zH | apply zF | apply zG | refine zI ?_ GE56.out | refine zI ?_ GE57.out | refine zI ?_ GE58.out | refine zI ?_ GE72.out) | exact HB.out))⟩)
    rintro ⟨v69, gb72⟩ w43 ⟨hS_, h0_, h1_, h2_, h3_, h4_, h5_, h6_, h7_, h8_, h9_, h10_, h11_, h12_, h13_, h14_⟩; have n0_ : Aside0 (Kd.R Kd.string 9 w43 w.heap.size (fun k_ => some k_ ≠ (v69 : Value).ownBlock) (.slice Ao40 t59.length co40) t59) := ⟨h0_⟩; have n1_ : Aside0 (Kd.R Kd.string 9 w43 w.heap.size (fun k_ => some k_ ≠ (.slice Ao40 t59.length co40 : Value).ownBlock) v69 t61) := ⟨h1_⟩; have n2_ : Aside0 (w43.heap[gb56]? = some (.cells #[.string a0_0, .int .i64 a0_1] 45 (0, 0))) := ⟨h2_⟩; have n3_ : Aside0 (w43.heap[gb57]? = some (.cells #[.string (⟨#[]⟩ : ByteArray), .int .i64 0] 45 (0, 0))) := ⟨h3_⟩; have n4_ : Aside0 (w43.heap[gb58]? = some (.cells #[.int .i64 0, .slice none 0 0, .slice none 0 0] 47 (0, 0))) := ⟨h4_⟩; have n5_ : Aside0 (w43.heap[gb72]? = some (.cells #[.int .i64 0, .slice none 0 0, .slice none 0 0] 47 (0, 0))) := ⟨h5_⟩; have n6_ : Aside0 (w.heap.size ≤ gb72) := ⟨h6_⟩; have n7_ : Aside0 (w.heap.size ≤ gb72) := ⟨h7_⟩; have n8_ : Aside0 (gb56 ≠ gb72) := ⟨h8_⟩; have n9_ : Aside0 (gb72 ≠ gb56) := ⟨h9_⟩; have n10_ : Aside0 (gb57 ≠ gb72) := ⟨h10_⟩; have n11_ : Aside0 (gb72 ≠ gb57) := ⟨h11_⟩; have n12_ : Aside0 (gb58 ≠ gb72) := ⟨h12_⟩; have n13_ : Aside0 (gb72 ≠ gb58) := ⟨h13_⟩; have n14_ : Aside0 (Below w.heap.size w w43) := ⟨h14_⟩; clear HO68 BK56 BK57 BK58 HB h0_ h1_ h2_ h3_ h4_ h5_ h6_ h7_ h8_ h9_ h10_ h11_ h12_ h13_ h14_; have HO68 := n0_; have HO71 := n1_; have BK56 := n2_; have BK57 := n3_; have BK58 := n4_; have BK72 := n5_; have GW72 := n6_; have GE72 := n7_; have NB56_72 := n8_; have NB72_56 := n9_; have NB57_72 := n10_; have NB72_57 := n11_; have NB58_72 := n12_; have NB72_58 := n13_; have HB := n14_; clear n0_ n1_ n2_ n3_ n4_ n5_ n6_ n7_ n8_ n9_ n10_ n11_ n12_ n13_ n14_; have hHeld : w43.cell? ⟨gb56, 0, none⟩ = some (.string a0_0) ∧ w43.cell? ⟨gb56, 1, none⟩ = some (.int .i64 a0_1) := hS_; obtain ⟨Ao44, co44, eo44⟩ := Kd.R_slice HO71.out; (first | subst eo44 | (injection eo44 with f1_ f2_ f3_; have f4_ := f1_.symm; have f5_ := f3_.symm; clear f1_ f2_ f3_; subst f4_; subst f5_)); refine norm_ (a' := ?_) ?_ ?_; rotate_left
    ·simp only [putAll, Act.put, zC, zD, zE]
     rfl
    refine one_ (i := 12) (N := none) #[true, true, true, true, true, true, true, true, true, true, true, true, true] rfl rfl (one_of HT_.out (by kernel_rfl)) (by decide) (fun K hK => ?_); have hs45 : w43.cell? ⟨gb72, 0, none⟩ = some (.int .i64 0) := (zP BK72.out 0).trans rfl; have hfs45 := zO BK72.out 0; have hns45_0 := NB56_72.out; have hns45_1 := NB57_72.out; have hns45_2 := NB58_72.out; have hms45_0 := NB72_56.out; have hms45_1 := NB72_57.out; have hms45_2 := NB72_58.out; have hs46 : w43.cell? ⟨gb72, 1, none⟩ = some (.slice none 0 0) := (zP BK72.out 1).trans rfl; have hfs46 := zO BK72.out 1; have hns46_0 := NB56_72.out; have hns46_1 := NB57_72.out; have hns46_2 := NB58_72.out; have hms46_0 := NB72_56.out; have hms46_1 := NB72_57.out; have hms46_2 := NB72_58.out; have hs47 : w43.cell? ⟨gb72, 2, none⟩ = some (.slice none 0 0) := (zP BK72.out 2).trans rfl; have hfs47 := zO BK72.out 2; have hns47_0 := NB56_72.out; have hns47_1 := NB57_72.out; have hns47_2 := NB58_72.out; have hms47_0 := NB72_56.out; have hms47_1 := NB72_57.out; have hms47_2 := NB72_58.out; refine skip_ (w1 := ?_) (by rfl) rfl ?_ ?_; rotate_left
    ·go_simp
     rfl
    refine hK.out _ _ ⟨((yF (p := ⟨gb72, _, none⟩) NB56_72.out _).trans (((yF (p := ⟨gb72, _, none⟩) NB56_72.out _).trans (((yF (p := ⟨gb72, _, none⟩) NB56_72.out _).trans (hHeld.1)))))), ((yF (p := ⟨gb72, _, none⟩) NB56_72.out _).trans (((yF (p := ⟨gb72, _, none⟩) NB56_72.out _).trans (((yF (p := ⟨gb72, _, none⟩) NB56_72.out _).trans (hHeld.2))))))⟩ (fun hHeld => ?_); clear hK K; refine done_ (done_of HT_.out (by kernel_rfl)) ?_
    try go_wp2
    have n0_ : Aside0 (Kd.R Kd.string 9 (((w43.setCell ⟨gb72, 0, none⟩ (.int .i64 a0_1)).setCell ⟨gb72, 1, none⟩ (.slice Ao44 t61.length co44)).setCell ⟨gb72, 2, none⟩ (.slice Ao40 t59.length co40)) w.heap.size (fun k_ => some k_ ≠ (.slice Ao44 t61.length co44 : Value).ownBlock) (.slice Ao40 t59.length co40) t59) := ⟨by (with_reducible repeat first | apply zQ | apply zR | apply zS); exact yC (Kd.R_far (p := ⟨gb72, 2, none⟩) (Kd.R_far (p := ⟨gb72, 1, none⟩) (Kd.R_far (p := ⟨gb72, 0, none⟩) (Kd.R_types HO68.out BK72.out (by decide)) (fun _ hk => hk.2) (.int .i64 a0_1)) (fun _ hk => hk.2) (.slice Ao44 t61.length co44)) (fun _ hk => hk.2) (.slice Ao40 t59.length co40)) (fun _ hk => hk.1)⟩; have n1_ : Aside0 (Kd.R Kd.string 9 (((w43.setCell ⟨gb72, 0, none⟩ (.int .i64 a0_1)).setCell ⟨gb72, 1, none⟩ (.slice Ao44 t61.length co44)).setCell ⟨gb72, 2, none⟩ (.slice Ao40 t59.length co40)) w.heap.size (fun k_ => some k_ ≠ (.slice Ao40 t59.length co40 : Value).ownBlock) (.slice Ao44 t61.length co44) t61) := ⟨by (with_reducible repeat first | apply zQ | apply zR | apply zS); exact yC (Kd.R_far (p := ⟨gb72, 2, none⟩) (Kd.R_far (p := ⟨gb72, 1, none⟩) (Kd.R_far (p := ⟨gb72, 0, none⟩) (Kd.R_types HO71.out BK72.out (by decide)) (fun _ hk => hk.2) (.int .i64 a0_1)) (fun _ hk => hk.2) (.slice Ao44 t61.length co44)) (fun _ hk => hk.2) (.slice Ao40 t59.length co40)) (fun _ hk => hk.1)⟩; have n2_ : Aside0 ((((w43.setCell ⟨gb72, 0, none⟩ (.int .i64 a0_1)).setCell ⟨gb72, 1, none⟩ (.slice Ao44 t61.length co44)).setCell ⟨gb72, 2, none⟩ (.slice Ao40 t59.length co40)).heap[gb56]? = some (.cells #[.string a0_0, .int .i64 a0_1] 45 (0, 0))) := ⟨by (with_reducible repeat (first | refine zL ?_ _ | refine zN ?_ | refine zM ?_ _)); refine blk_far ?_ NB56_72.out _; (with_reducible repeat (first | refine zL ?_ _ | refine zN ?_ | refine zM ?_ _)); refine blk_far ?_ NB56_72.out _; (with_reducible repeat (first | refine zL ?_ _ | refine zN ?_ | refine zM ?_ _)); refine blk_far ?_ NB56_72.out _; (with_reducible repeat (first | refine zL ?_ _ | refine zN ?_ | refine zM ?_ _)); exact BK56.out⟩; have n3_ : Aside0 ((((w43.setCell ⟨gb72, 0, none⟩ (.int .i64 a0_1)).setCell ⟨gb72, 1, none⟩ (.slice Ao44 t61.length co44)).setCell ⟨gb72, 2, none⟩ (.slice Ao40 t59.length co40)).heap[gb57]? = some (.cells #[.string (⟨#[]⟩ : ByteArray), .int .i64 0] 45 (0, 0))) := ⟨by (with_reducible repeat (first | refine zL ?_ _ | refine zN ?_ | refine zM ?_ _)); refine blk_far ?_ NB57_72.out _; (with_reducible repeat (first | refine zL ?_ _ | refine zN ?_ | refine zM ?_ _)); refine blk_far ?_ NB57_72.out _; (with_reducible repeat (first | refine zL ?_ _ | refine zN ?_ | refine zM ?_ _)); refine blk_far ?_ NB57_72.out _; (with_reducible repeat (first | refine zL ?_ _ | refine zN ?_ | refine zM ?_ _)); exact BK57.out⟩; have n4_ : Aside0 ((((w43.setCell ⟨gb72, 0, none⟩ (.int .i64 a0_1)).setCell ⟨gb72, 1, none⟩ (.slice Ao44 t61.length co44)).setCell ⟨gb72, 2, none⟩ (.slice Ao40 t59.length co40)).heap[gb58]? = some (.cells #[.int .i64 0, .slice none 0 0, .slice none 0 0] 47 (0, 0))) := ⟨by (with_reducible repeat (first | refine zL ?_ _ | refine zN ?_ | refine zM ?_ _)); refine blk_far ?_ NB58_72.out _; (with_reducible repeat (first | refine zL ?_ _ | refine zN ?_ | refine zM ?_ _)); refine blk_far ?_ NB58_72.out _; (with_reducible repeat (first | refine zL ?_ _ | refine zN ?_ | refine zM ?_ _)); refine blk_far ?_ NB58_72.out _; (with_reducible repeat (first | refine zL ?_ _ | refine zN ?_ | refine zM ?_ _)); exact BK58.out⟩; have n5_ : Aside0 ((((w43.setCell ⟨gb72, 0, none⟩ (.int .i64 a0_1)).setCell ⟨gb72, 1, none⟩ (.slice Ao44 t61.length co44)).setCell ⟨gb72, 2, none⟩ (.slice Ao40 t59.length co40)).heap[gb72]? = some (.cells #[.int .i64 a0_1, .slice Ao44 t61.length co44, .slice Ao40 t59.length co40] 47 (0, 0))) := ⟨by (with_reducible repeat (first | refine zL ?_ _ | refine zN ?_ | refine zM ?_ _)); refine blk_put (cs := #[.int .i64 a0_1, .slice Ao44 t61.length co44, .slice none 0 0]) ?_ 2 _ rfl; (with_reducible repeat (first | refine zL ?_ _ | refine zN ?_ | refine zM ?_ _)); refine blk_put (cs := #[.int .i64 a0_1, .slice none 0 0, .slice none 0 0]) ?_ 1 _ rfl; (with_reducible repeat (first | refine zL ?_ _ | refine zN ?_ | refine zM ?_ _)); refine blk_put (cs := #[.int .i64 0, .slice none 0 0, .slice none 0 0]) ?_ 0 _ rfl; (with_reducible repeat (first | refine zL ?_ _ | refine zN ?_ | refine zM ?_ _)); exact BK72.out⟩; have n6_ : Aside0 (Below w.heap.size w (((w43.setCell ⟨gb72, 0, none⟩ (.int .i64 a0_1)).setCell ⟨gb72, 1, none⟩ (.slice Ao44 t61.length co44)).setCell ⟨gb72, 2, none⟩ (.slice Ao40 t59.length co40))) := ⟨by repeat (first | (with_reducible first | exact HB.out | apply zH | apply zF | apply zG | refine zI ?_ GE56.out | refine zI ?_ GE57.out | refine zI ?_ GE58.out | refine zI ?_ GE72.out) | exact HB.out)⟩; (try clear HO68); (try clear HO71); (try clear BK56); (try clear BK57); (try clear BK58); (try clear BK72); (try clear HB); generalize (((w43.setCell ⟨gb72, 0, none⟩ (.int .i64 a0_1)).setCell ⟨gb72, 1, none⟩ (.slice Ao44 t61.length co44)).setCell ⟨gb72, 2, none⟩ (.slice Ao40 t59.length co40)) = w48 at n0_ n1_ n2_ n3_ n4_ n5_ n6_ ⊢; have HO68 := n0_; have HO71 := n1_; have BK56 := n2_; have BK57 := n3_; have BK58 := n4_; have BK72 := n5_; have HB := n6_; clear n0_ n1_ n2_ n3_ n4_ n5_ n6_; have n0_ := zA (zS HO68.out); have n1_ := zA (zS HO71.out); have n2_ := zA (zN BK56.out)
    have n3_ := zA (zN BK57.out); have n4_ := zA (zN BK58.out); have n5_ := zA (zN BK72.out); have n6_ := zA (zG HB.out); clear HO68 HO71 BK56 BK57 BK58 BK72 HB; have HO68 := n0_; have HO71 := n1_; have BK56 := n2_; have BK57 := n3_; have BK58 := n4_; have BK72 := n5_; have HB := n6_; clear n0_ n1_ n2_ n3_ n4_ n5_ n6_; refine start_ (n := 10) (S := fun w' => w'.cell? ⟨gb56, 0, none⟩ = some (.string a0_0) ∧ w'.cell? ⟨gb56, 1, none⟩ = some (.int .i64 a0_1) ∧ w'.cell? ⟨gb72, 0, none⟩ = some (.int .i64 a0_1) ∧ w'.cell? ⟨gb72, 1, none⟩ = some (.slice Ao44 t61.length co44) ∧ w'.cell? ⟨gb72, 2, none⟩ = some (.slice Ao40 t59.length co40)) (ds := []) #[false, false, false, false, false, false, false, false, false, false] (by kernel_rfl) rfl rfl ⟨(zP BK56.out 0).trans rfl, (zP BK56.out 1).trans rfl, (zP BK72.out 0).trans rfl, (zP BK72.out 1).trans rfl, (zP BK72.out 2).trans rfl⟩ (fun hHeld => ?_); refine with_tabW impl_SealText.tab5 impl_SealText.bits5 (fun HT_ HW_ => ?_); generalize w48.drew = w49 at HO68 HO71 BK56 BK57 BK58 BK72 HB hHeld ⊢; refine pure_ (i := 0) (N := some 44) (v := ?_) (a' := ?_) #[true, false, false, false, false, false, false, false, false, false] rfl rfl (any_of HT_.out (by kernel_rfl)) (fun _ _ _ h => h) (Or.inl ⟨by rfl, ?_⟩) ?_ ?_; rotate_left
    ·intro w'
     go_simp
     with_reducible rfl
    rotate_left
    ·simp only [Act.put, zC, zD, zE, i64_w]
     rfl
    refine pure_ (i := 2) (N := some 46) (v := ?_) (a' := ?_) #[true, false, true, false, false, false, false, false, false, false] rfl rfl (any_of HT_.out (by kernel_rfl)) (fun _ _ _ h => h) (Or.inl ⟨by rfl, ?_⟩) ?_ ?_; rotate_left
    ·intro w'
     go_simp
     with_reducible rfl
    rotate_left
    ·simp only [Act.put, zC, zD, zE, i64_w]
     rfl
    refine take_ (i := 1) (N := some 45) (v := ?_) (a' := ?_) #[true, true, true, false, false, false, false, false, false, false] rfl rfl (take_ofW HT_.out HW_.out (by kernel_rfl)) (fun _ _ _ h => h) (Or.inl ⟨by rfl, ?_⟩) hHeld ?_ ?_; rotate_left
    ·rintro w' ⟨s0, s1, s2, s3, s4⟩
     go_simp
     with_reducible rfl
    rotate_left
    ·simp only [Act.put, zC, zD, zE, i64_w]
     rfl
    refine take_ (i := 3) (N := some 47) (v := ?_) (a' := ?_) #[true, true, true, true, false, false, false, false, false, false] rfl rfl (take_ofW HT_.out HW_.out (by kernel_rfl)) (fun _ _ _ h => h) (Or.inl ⟨by rfl, ?_⟩) hHeld ?_ ?_; rotate_left
    ·rintro w' ⟨s0, s1, s2, s3, s4⟩
     go_simp
     with_reducible rfl
    rotate_left
    ·simp only [Act.put, zC, zD, zE, i64_w]
     rfl
    refine pure_ (i := 4) (N := some 48) (v := ?_) (a' := ?_) #[true, true, true, true, true, false, false, false, false, false] rfl rfl (any_of HT_.out (by kernel_rfl)) (fun _ _ _ h => h) (Or.inl ⟨by rfl, ?_⟩) ?_ ?_; rotate_left
    ·intro w'
     go_simp
     with_reducible rfl
    rotate_left
    ·simp only [Act.put, zC, zD, zE, i64_w]
     rfl
    refine pure_ (i := 5) (N := some 49) (v := ?_) (a' := ?_) #[true, true, true, true, true, true, false, false, false, false] rfl rfl (any_of HT_.out (by kernel_rfl)) (fun _ _ _ h => h) (Or.inl ⟨by rfl, ?_⟩) ?_ ?_; rotate_left
    ·intro w'
     go_simp
     with_reducible rfl
    rotate_left
    ·simp only [Act.put, zC, zD, zE, i64_w]
     rfl
    refine take_ (i := 6) (N := some 50) (v := ?_) (a' := ?_) #[true, true, true, true, true, true, true, false, false, false] rfl rfl (take_ofW HT_.out HW_.out (by kernel_rfl)) (fun _ _ _ h => h) (Or.inl ⟨by rfl, ?_⟩) hHeld ?_ ?_; rotate_left
    ·rintro w' ⟨s0, s1, s2, s3, s4⟩
     go_simp
     with_reducible rfl
    rotate_left
    ·simp only [Act.put, zC, zD, zE, i64_w]
     rfl
    refine one_ (i := 7) (N := none) #[true, true, true, true, true, true, true, true, false, false] rfl rfl (one_of HT_.out (by kernel_rfl)) (by decide) (fun K hK => ?_); have hs50 : w49.cell? ⟨gb57, 0, none⟩ = some (.string (⟨#[]⟩ : ByteArray)) := (zP BK57.out 0).trans rfl; have hfs50 := zO BK57.out 0; have hns50_0 := NB56_57.out; have hns50_2 := NB58_57.out; have hns50_3 := NB72_57.out; have hms50_0 := NB57_56.out; have hms50_2 := NB57_58.out; have hms50_3 := NB57_72.out; have hs51 : w49.cell? ⟨gb57, 1, none⟩ = some (.int .i64 0) := (zP BK57.out 1).trans rfl; have hfs51 := zO BK57.out 1; have hns51_0 := NB56_57.out; have hns51_2 := NB58_57.out; have hns51_3 := NB72_57.out; have hms51_0 := NB57_56.out; have hms51_2 := NB57_58.out; have hms51_3 := NB57_72.out; refine skip_ (w1 := ?_) (by rfl) rfl ?_ ?_; rotate_left
    ·go_simp
     rfl
    refine hK.out _ _ ⟨((yF (p := ⟨gb57, _, none⟩) NB56_57.out _).trans (((yF (p := ⟨gb57, _, none⟩) NB56_57.out _).trans (hHeld.1)))), ((yF (p := ⟨gb57, _, none⟩) NB56_57.out _).trans (((yF (p := ⟨gb57, _, none⟩) NB56_57.out _).trans (hHeld.2.1)))), ((yF (p := ⟨gb57, _, none⟩) NB72_57.out _).trans (((yF (p := ⟨gb57, _, none⟩) NB72_57.out _).trans (hHeld.2.2.1)))), ((yF (p := ⟨gb57, _, none⟩) NB72_57.out _).trans (((yF (p := ⟨gb57, _, none⟩) NB72_57.out _).trans (hHeld.2.2.2.1)))), ((yF (p := ⟨gb57, _, none⟩) NB72_57.out _).trans (((yF (p := ⟨gb57, _, none⟩) NB72_57.out _).trans (hHeld.2.2.2.2))))⟩ (fun hHeld => ?_); clear hK K; refine one_ (i := 8) (N := none) #[true, true, true, true, true, true, true, true, true, false] rfl rfl (one_of HT_.out (by kernel_rfl)) (by decide) (fun K hK => ?_); have hs52 : w49.cell? ⟨gb58, 0, none⟩ = some (.int .i64 0) := (zP BK58.out 0).trans rfl; have hfs52 := zO BK58.out 0; have hns52_0 := NB56_58.out; have hns52_1 := NB57_58.out; have hns52_3 := NB72_58.out; have hms52_0 := NB58_56.out; have hms52_1 := NB58_57.out; have hms52_3 := NB58_72.out; have hs53 : w49.cell? ⟨gb58, 1, none⟩ = some (.slice none 0 0) := (zP BK58.out 1).trans rfl; have hfs53 := zO BK58.out 1; have hns53_0 := NB56_58.out; have hns53_1 := NB57_58.out; have hns53_3 := NB72_58.out; have hms53_0 := NB58_56.out; have hms53_1 := NB58_57.out; have hms53_3 := NB58_72.out; have hs54 : w49.cell? ⟨gb58, 2, none⟩ = some (.slice none 0 0) := (zP BK58.out 2).trans rfl; have hfs54 := zO BK58.out 2; have hns54_0 := NB56_58.out; have hns54_1 := NB57_58.out; have hns54_3 := NB72_58.out; have hms54_0 := NB58_56.out; have hms54_1 := NB58_57.out; have hms54_3 := NB58_72.out; refine skip_ (w1 := ?_) (by rfl) rfl ?_ ?_; rotate_left
    ·go_simp
     rfl
    refine hK.out _ _ ⟨((yF (p := ⟨gb58, _, none⟩) NB56_58.out _).trans (((yF (p := ⟨gb58, _, none⟩) NB56_58.out _).trans (((yF (p := ⟨gb58, _, none⟩) NB56_58.out _).trans (hHeld.1)))))), ((yF (p := ⟨gb58, _, none⟩) NB56_58.out _).trans (((yF (p := ⟨gb58, _, none⟩) NB56_58.out _).trans (((yF (p := ⟨gb58, _, none⟩) NB56_58.out _).trans (hHeld.2.1)))))), ((yF (p := ⟨gb58, _, none⟩) NB72_58.out _).trans (((yF (p := ⟨gb58, _, none⟩) NB72_58.out _).trans (((yF (p := ⟨gb58, _, none⟩) NB72_58.out _).trans (hHeld.2.2.1)))))), ((yF (p := ⟨gb58, _, none⟩) NB72_58.out _).trans (((yF (p := ⟨gb58, _, none⟩) NB72_58.out _).trans (((yF (p := ⟨gb58, _, none⟩) NB72_58.out _).trans (hHeld.2.2.2.1)))))), ((yF (p := ⟨gb58, _, none⟩) NB72_58.out _).trans (((yF (p := ⟨gb58, _, none⟩) NB72_58.out _).trans (((yF (p := ⟨gb58, _, none⟩) NB72_58.out _).trans (hHeld.2.2.2.2))))))⟩ (fun hHeld => ?_); clear hK K; refine pure_ (i := 9) (N := some 6) (v := ?_) (a' := ?_) #[true, true, true, true, true, true, true, true, true, true] rfl rfl (any_of HT_.out (by kernel_rfl)) (fun _ _ _ h => h) (Or.inl ⟨by rfl, ?_⟩) ?_ ?_; rotate_left
    ·intro w'
     go_simp
     with_reducible rfl
    rotate_left
    ·simp only [Act.put, zC, zD, zE, i64_w]
     rfl
    refine done_ (done_of HT_.out (by kernel_rfl)) ?_
    try go_wp2
    refine bodyPost_ret (results_list (rs := [.cell 4 45, .cell 5 47, .tmp 6]) rfl (by simp) (.cell gb57 45 #[.string a0_0, .int .i64 (wrap64 (a0_1 + 1))] (0, 0) _ rfl (by (with_reducible repeat (first | refine zL ?_ _ | refine zN ?_ | refine zM ?_ _)); refine blk_far ?_ NB57_58.out _; (with_reducible repeat (first | refine zL ?_ _ | refine zN ?_ | refine zM ?_ _)); refine blk_far ?_ NB57_58.out _; (with_reducible repeat (first | refine zL ?_ _ | refine zN ?_ | refine zM ?_ _)); refine blk_far ?_ NB57_58.out _; (with_reducible repeat (first | refine zL ?_ _ | refine zN ?_ | refine zM ?_ _)); refine blk_put (cs := #[.string a0_0, .int .i64 0]) ?_ 1 _ rfl; (with_reducible repeat (first | refine zL ?_ _ | refine zN ?_ | refine zM ?_ _)); refine blk_put (cs := #[.string (⟨#[]⟩ : ByteArray), .int .i64 0]) ?_ 0 _ rfl; (with_reducible repeat (first | refine zL ?_ _ | refine zN ?_ | refine zM ?_ _)); exact BK57.out) Try.underlying45 rfl (by kernel_rfl) (.cell gb58 47 #[.int .i64 a0_1, .slice Ao44 t61.length co44, .slice Ao40 t59.length co40] (0, 0) _ rfl (by (with_reducible repeat (first | refine zL ?_ _ | refine zN ?_ | refine zM ?_ _)); refine blk_put (cs := #[.int .i64 a0_1, .slice Ao44 t61.length co44, .slice none 0 0]) ?_ 2 _ rfl; (with_reducible repeat (first | refine zL ?_ _ | refine zN ?_ | refine zM ?_ _)); refine blk_put (cs := #[.int .i64 a0_1, .slice none 0 0, .slice none 0 0]) ?_ 1 _ rfl; (with_reducible repeat (first | refine zL ?_ _ | refine zN ?_ | refine zM ?_ _)); refine blk_put (cs := #[.int .i64 0, .slice none 0 0, .slice none 0 0]) ?_ 0 _ rfl; (with_reducible repeat (first | refine zL ?_ _ | refine zN ?_ | refine zM ?_ _)); refine blk_far ?_ NB58_57.out _; (with_reducible repeat (first | refine zL ?_ _ | refine zN ?_ | refine zM ?_ _)); refine blk_far ?_ NB58_57.out _; (with_reducible repeat (first | refine zL ?_ _ | refine zN ?_ | refine zM ?_ _)); exact BK58.out) Try.underlying47 rfl (by kernel_rfl) (.tmp .nil)))) rfl ?_; exact ⟨_, _, by first | rfl | (simp <;> rfl) | (simp [*] <;> rfl), by (with_reducible repeat first | apply zQ | apply zR | apply zS); exact yC (Kd.R_far (p := ⟨gb58, 2, none⟩) (Kd.R_far (p := ⟨gb58, 1, none⟩) (Kd.R_far (p := ⟨gb58, 0, none⟩) (Kd.R_far (p := ⟨gb57, 1, none⟩) (Kd.R_far (p := ⟨gb57, 0, none⟩) (Kd.R_types (Kd.R_types HO71.out BK57.out (by decide)) BK58.out (by decide)) (fun _ hk => hk.1.2) (.string a0_0)) (fun _ hk => hk.1.2) (.int .i64 (wrap64 (a0_1 + 1)))) (fun _ hk => hk.2) (.int .i64 a0_1)) (fun _ hk => hk.2) (.slice Ao44 t61.length co44)) (fun _ hk => hk.2) (.slice Ao40 t59.length co40)) (fun _ hk => hk.1.1), by (with_reducible repeat first | apply zQ | apply zR | apply zS); exact yC (Kd.R_far (p := ⟨gb58, 2, none⟩) (Kd.R_far (p := ⟨gb58, 1, none⟩) (Kd.R_far (p := ⟨gb58, 0, none⟩) (Kd.R_far (p := ⟨gb57, 1, none⟩) (Kd.R_far (p := ⟨gb57, 0, none⟩) (Kd.R_types (Kd.R_types HO68.out BK57.out (by decide)) BK58.out (by decide)) (fun _ hk => hk.1.2) (.string a0_0)) (fun _ hk => hk.1.2) (.int .i64 (wrap64 (a0_1 + 1)))) (fun _ hk => hk.2) (.int .i64 a0_1)) (fun _ hk => hk.2) (.slice Ao44 t61.length co44)) (fun _ hk => hk.2) (.slice Ao40 t59.length co40)) (fun _ hk => hk.1.1), by repeat (first | (with_reducible first | exact HB.out | apply zH | apply zF | apply zG | refine zI ?_ GE56.out | refine zI ?_ GE57.out | refine zI ?_ GE58.out | refine zI ?_ GE72.out) | exact HB.out)⟩
def laws_eqSigner.f (a0_0 : ByteArray) (a0_1 : Int) (a1_0 : ByteArray) (a1_1 : Int) : Option (Bool) := if a0_0.toList = a1_0.toList then (if a0_1 = a1_1 then (some true) else (some false)) else (some false)
theorem laws_eqSigner.calls (a0_0 : ByteArray) (a0_1 : Int) (a1_0 : ByteArray) (a1_1 : Int) (r : Bool) (w : World) (h : laws_eqSigner.f a0_0 a0_1 a1_0 a1_1 = some r) (hr_ : Aside0 (r = true)) :
  Calls Try.prog 26 #[.agg #[.string a0_0, .int .i64 a0_1], .agg #[.string a1_0, .int .i64 a1_1]] w fun e w' => e = .returned (.bool r) ∧ Below w.heap.size w w' := by
 have hu45 := Try.underlying45; have HB := zA (Below.refl w.heap.size w); have H : (if a0_0.toList = a1_0.toList then (if a0_1 = a1_1 then (some true) else (some false)) else (some false)) = some r := h; clear h
 by_cases c3 : a0_0.toList = a1_0.toList
 ·rw [if_pos c3] at H
  have c3b0 : (a0_0.toList == a1_0.toList) = true := beq_iff_eq.mpr c3; have c3b1 : (a0_0.toList != a1_0.toList) = false := bne_eq_false_iff_eq.mpr c3; clear c3
  by_cases c4 : a0_1 = a1_1
  ·rw [if_pos c4] at H
   have c4b0 : (a0_1 == a1_1) = true := beq_iff_eq.mpr c4; have c4b1 : (a0_1 != a1_1) = false := bne_eq_false_iff_eq.mpr c4; clear c4; obtain rfl := yM H; go_enter Try.func26, Try.ntmps26; go_wp2_with (first | ((with_reducible refine gate_dst (N := 2) rfl ?_); refine box_event ?hg (N := 2) ?hd (cs := #[.string a0_0, .int .i64 a0_1]) (t := 45) ?hr ?_; (case hd => rfl); (case hg => rfl); (case hr => first | (go_simp; done) | (go_simp; rfl)); intro gb10 hg w5 hbox hb; have n0_ := zA (zAD (by (with_reducible repeat first | exact HB.out | apply zH | apply zF | apply zG) <;> exact HB.out) hb); have n1_ := zA (hbox); have n2_ := zA ((by rw [hg]; exact (zAE (by (with_reducible repeat first | exact HB.out | apply zH | apply zF | apply zG) <;> exact HB.out)) : w.heap.size ≤ gb10)); have n3_ := zA ((by rw [hg]; exact (zAE (by (with_reducible repeat first | exact HB.out | apply zH | apply zF | apply zG) <;> exact HB.out)) : w.heap.size ≤ gb10)); clear HB; have HB := n0_; have BK10 := n1_; have GW10 := n2_; have GE10 := n3_; clear n0_ n1_ n2_ n3_; clear hb hbox hg) | ((with_reducible refine gate_dst (N := 3) rfl ?_); refine box_event ?hg (N := 3) ?hd (cs := #[.string a1_0, .int .i64 a1_1]) (t := 45) ?hr ?_; (case hd => rfl); (case hg => rfl); (case hr => first | (go_simp; done) | (go_simp; rfl)); intro gb11 hg w6 hbox hb; have n0_ := zA (yE (g := gb10) (o := .cells #[.string a0_0, .int .i64 a0_1] 45 (0, 0)) (by (with_reducible repeat (first | refine zL ?_ _ | refine zN ?_ | refine zM ?_ _)); exact BK10.out) hb); have n1_ := zA (zAD (by repeat (first | (with_reducible first | exact HB.out | apply zH | apply zF | apply zG | refine zI ?_ GE10.out) | exact HB.out)) hb); have n2_ := zA (hbox); have n3_ := zA ((by rw [hg]; exact (zAE (by repeat (first | (with_reducible first | exact HB.out | apply zH | apply zF | apply zG | refine zI ?_ GE10.out) | exact HB.out))) : w.heap.size ≤ gb11)); have n4_ := zA ((by rw [hg]; exact (zAE (by repeat (first | (with_reducible first | exact HB.out | apply zH | apply zF | apply zG | refine zI ?_ GE10.out) | exact HB.out))) : w.heap.size ≤ gb11)); have n5_ := zA ((by rw [hg]; exact zK (blk_lt (g := gb10) (o := .cells #[.string a0_0, .int .i64 a0_1] 45 (0, 0)) (by (with_reducible repeat (first | refine zL ?_ _ | refine zN ?_ | refine zM ?_ _)); exact BK10.out)) : gb10 ≠ gb11)); have n6_ := zA ((by rw [hg]; exact Nat.ne_of_gt (blk_lt (g := gb10) (o := .cells #[.string a0_0, .int .i64 a0_1] 45 (0, 0)) (by (with_reducible repeat (first | refine zL ?_ _ | refine zN ?_ | refine zM ?_ _)); exact BK10.out)) : gb11 ≠ gb10)); clear BK10; clear HB; have BK10 := n0_; have HB := n1_; have BK11 := n2_; have GW11 := n3_; have GE11 := n4_; have NB10_11 := n5_; have NB11_10 := n6_; clear n0_ n1_ n2_ n3_ n4_ n5_ n6_; clear hb hbox hg; have hnb7 := NB10_11.out; have hnc7 := NB11_10.out; have hcz8_0 := yL BK10.out 0 (.string a0_0) rfl; have hcz8_1 := yL BK10.out 1 (.int .i64 a0_1) rfl; have hfz8_0 := zO BK10.out 0; have hfz8_1 := zO BK10.out 1; have hcz9_0 := yL BK11.out 0 (.string a1_0) rfl; have hcz9_1 := yL BK11.out 1 (.int .i64 a1_1) rfl; have hfz9_0 := zO BK11.out 0; have hfz9_1 := zO BK11.out 1)); go_ret; exact ⟨by first | rfl | (simp <;> rfl) | (simp [*] <;> rfl), by repeat (first | (with_reducible first | exact HB.out | apply zH | apply zF | apply zG | refine zI ?_ GE10.out | refine zI ?_ GE11.out) | exact HB.out)⟩
  ·rw [if_neg c4] at H
   have c4b0 : (a0_1 == a1_1) = false := beq_eq_false_iff_ne.mpr c4; have c4b1 : (a0_1 != a1_1) = true := bne_iff_ne.mpr c4; exact absurd ((yM H).trans hr_.out) (by decide)
 ·rw [if_neg c3] at H
  have c3b0 : (a0_0.toList == a1_0.toList) = false := beq_eq_false_iff_ne.mpr c3; have c3b1 : (a0_0.toList != a1_0.toList) = true := bne_iff_ne.mpr c3; exact absurd ((yM H).trans hr_.out) (by decide)
def laws_eqStringS.l0 : Nat → List ByteArray → List ByteArray → Int → Option (Bool)
 | 0, _, _, _ => none
 | k + 1, x0, x1, x5 => if x5 < (x0.length : Int) then (if 0 ≤ x5 then (if x5 < (x1.length : Int) then (if (rdOf ByteArray.empty x0 x5).toList = (rdOf ByteArray.empty x1 x5).toList then (laws_eqStringS.l0 k x0 x1 (wrap64 (x5 + 1))) else (some false)) else (none)) else (none)) else (some true)
def laws_eqStringS.f (k : Nat) (l0 : List ByteArray) (l1 : List ByteArray) : Option (Bool) := if (l0.length : Int) = (l1.length : Int) then (laws_eqStringS.l0 k l0 l1 0) else (some false)
theorem laws_eqStringS.calls (k : Nat) (A0 : Option Addr) (c0 : Nat) (l0 : List ByteArray) (A1 : Option Addr) (c1 : Nat) (l1 : List ByteArray) (r : Bool) (w : World) (hr0 : Kd.C Kd.string w A0 l0.length l0) (hc0 : l0.length ≤ c0) (hr1 : Kd.C Kd.string w A1 l1.length l1) (hc1 : l1.length ≤ c1) (h : laws_eqStringS.f k l0 l1 = some r) (hr_ : Aside0 (r = true)) :
  Calls Try.prog 87 #[.slice A0 l0.length c0, .slice A1 l1.length c1] w fun e w' => e = .returned (.bool r) ∧ Drawn0 w w' := by
 have HR0 := zA hr0; have HC0 := zA hc0; clear hr0 hc0; have HR1 := zA hr1; have HC1 := zA hc1; clear hr1 hc1; have H : (if (l0.length : Int) = (l1.length : Int) then (laws_eqStringS.l0 k l0 l1 0) else (some false)) = some r := h; clear h
 by_cases c3 : (l0.length : Int) = (l1.length : Int)
 ·rw [if_pos c3] at H
  have c3b0 : ((l0.length : Int) == (l1.length : Int)) = true := beq_iff_eq.mpr c3; have c3b1 : ((l0.length : Int) != (l1.length : Int)) = false := bne_eq_false_iff_eq.mpr c3; have c3b2 : (l0.length == l1.length) = true := by first | simpa using c3 | (simp at c3 ⊢; omega)
  clear c3; have H' := zA H; clear H; go_enter Try.func87, Try.ntmps87; go_wp2
  repeat (go_quiet (fail); try go_wp2)
  go_loopg [5] k (fun kq v5 w' => ∃ (x5_1 : Int), v5 = .int .i64 x5_1 ∧ Aside0 (laws_eqStringS.l0 kq l0 l1 x5_1 = some r) ∧ Aside0 (kq ≤ k) ∧ Drawn0 w w')
  case atStart => exact ⟨(0), (by first | rfl | (simp; done) | (simp [*]; done) | (simp [bne]; done)), H', ⟨Nat.le_refl _⟩, by repeat (first | exact Drawn0.refl _ | apply Drawn0.step)⟩
  case round =>
   clear H'
   try clear c1
   try clear p2
   try clear c3
   try clear c3b0
   try clear c3b1
   try clear c3b2
   obtain ⟨x5_1, rfl, HA, HK1, ⟨m1, rfl⟩⟩ := hrel
   cases gk with
   | zero => exact absurd HA.out (by simp [laws_eqStringS.l0])
   | succ k1 =>
    have H := HA.out; clear HA; simp only [laws_eqStringS.l0] at H
    by_cases c4 : x5_1 < (l0.length : Int)
    ·rw [if_pos c4] at H
     have c4b0 : decide (x5_1 < (l0.length : Int)) = true := zX c4; clear c4
     by_cases c5 : 0 ≤ x5_1
     ·rw [if_pos c5] at H
      have c5b0 : decide (0 ≤ x5_1) = true := zX c5; clear c5
      by_cases c6 : x5_1 < (l1.length : Int)
      ·rw [if_pos c6] at H
       have c6b0 : decide (x5_1 < (l1.length : Int)) = true := zX c6; clear c6
       by_cases c7 : (rdOf ByteArray.empty l0 x5_1).toList = (rdOf ByteArray.empty l1 x5_1).toList
       ·rw [if_pos c7] at H
        have c7b0 : ((rdOf ByteArray.empty l0 x5_1).toList == (rdOf ByteArray.empty l1 x5_1).toList) = true := beq_iff_eq.mpr c7; have c7b1 : ((rdOf ByteArray.empty l0 x5_1).toList != (rdOf ByteArray.empty l1 x5_1).toList) = false := bne_eq_false_iff_eq.mpr c7; clear c7; have H' := zA H; clear H; have p10 : 0 ≤ (x5_1 : Int) := zW (by first | (with_reducible assumption) | assumption); have q10 : x5_1 < (l0.length : Int) := zW (by first | (with_reducible assumption) | assumption); obtain ⟨ad10, e10, hx10_0⟩ := Kd.at_string HR0.out x5_1 p10 q10
        cases e10
        replace p10 := eq_true p10; replace q10 := eq_true q10; have p11 : 0 ≤ (x5_1 : Int) := zW (by first | (with_reducible assumption) | assumption); have q11 : x5_1 < (l1.length : Int) := zW (by first | (with_reducible assumption) | assumption); obtain ⟨ad11, e11, hx11_0⟩ := Kd.at_string HR1.out x5_1 p11 q11
        cases e11
        replace p11 := eq_true p11; replace q11 := eq_true q11; go_wp2
        repeat (go_quiet (fail); try go_wp2)
        go_roundg k1
        case measure => have := HK1.out; omega
        case rel => exact ⟨(wrap64 (x5_1 + 1)), (by first | rfl | (simp; done) | (simp [*]; done) | (simp [bne]; done)), H', ⟨by have := HK1.out; omega⟩, by repeat (first | exact Drawn0.refl _ | apply Drawn0.step)⟩
       ·rw [if_neg c7] at H
        have c7b0 : ((rdOf ByteArray.empty l0 x5_1).toList == (rdOf ByteArray.empty l1 x5_1).toList) = false := beq_eq_false_iff_ne.mpr c7; have c7b1 : ((rdOf ByteArray.empty l0 x5_1).toList != (rdOf ByteArray.empty l1 x5_1).toList) = true := bne_iff_ne.mpr c7; exact absurd ((yM H).trans hr_.out) (by decide)
      ·rw [if_neg c6] at H
       exact absurd H (by simp)
     ·rw [if_neg c5] at H
      exact absurd H (by simp)
    ·rw [if_neg c4] at H
     have c4b0 : decide (x5_1 < (l0.length : Int)) = false := decide_eq_false c4; clear c4; obtain rfl := yM H; go_wp2
     repeat (go_quiet (fail); try go_wp2)
     go_ret; exact ⟨by first | rfl | (simp; done) | (simp [*]; done) | (simp [bne]; done), by repeat (first | exact Drawn0.refl _ | apply Drawn0.step)⟩
 ·rw [if_neg c3] at H
  have c3b0 : ((l0.length : Int) == (l1.length : Int)) = false := beq_eq_false_iff_ne.mpr c3; have c3b1 : ((l0.length : Int) != (l1.length : Int)) = true := bne_iff_ne.mpr c3; have c3b2 : (l0.length == l1.length) = false := by first | simpa using c3 | (simp at c3 ⊢; omega)
  exact absurd ((yM H).trans hr_.out) (by decide)
def laws_eqSeal.f (k : Nat) (a0_0 : Int) (l0_1 : List ByteArray) (l0_2 : List ByteArray) (a1_0 : Int) (l1_1 : List ByteArray) (l1_2 : List ByteArray) : Option (Bool) := if a0_0 = a1_0 then ((laws_eqStringS.f k l0_1 l1_1).bind fun t10 => (if t10 = true then ((laws_eqStringS.f k l0_2 l1_2).bind fun t11 => (if t11 = true then (some true) else (some false))) else (some false))) else (some false)
theorem laws_eqSeal.calls (k : Nat) (a0_0 : Int) (A0_1 : Option Addr) (c0_1 : Nat) (l0_1 : List ByteArray) (A0_2 : Option Addr) (c0_2 : Nat) (l0_2 : List ByteArray) (a1_0 : Int) (A1_1 : Option Addr) (c1_1 : Nat) (l1_1 : List ByteArray) (A1_2 : Option Addr) (c1_2 : Nat) (l1_2 : List ByteArray) (r : Bool) (w : World) (hr0_1 : Kd.C Kd.string w A0_1 l0_1.length l0_1) (hc0_1 : l0_1.length ≤ c0_1) (hr0_2 : Kd.C Kd.string w A0_2 l0_2.length l0_2) (hc0_2 : l0_2.length ≤ c0_2) (hr1_1 : Kd.C Kd.string w A1_1 l1_1.length l1_1) (hc1_1 : l1_1.length ≤ c1_1) (hr1_2 : Kd.C Kd.string w A1_2 l1_2.length l1_2) (hc1_2 : l1_2.length ≤ c1_2) (h : laws_eqSeal.f k a0_0 l0_1 l0_2 a1_0 l1_1 l1_2 = some r) (hr_ : Aside0 (r = true)) :
  Calls Try.prog 27 #[.agg #[.int .i64 a0_0, .slice A0_1 l0_1.length c0_1, .slice A0_2 l0_2.length c0_2], .agg #[.int .i64 a1_0, .slice A1_1 l1_1.length c1_1, .slice A1_2 l1_2.length c1_2]] w fun e w' => e = .returned (.bool r) ∧ Below w.heap.size w w' := by
 have hu47 := Try.underlying47; have HR0_1 := zA hr0_1; have HC0_1 := zA hc0_1; clear hr0_1 hc0_1; have HR0_2 := zA hr0_2; have HC0_2 := zA hc0_2; clear hr0_2 hc0_2; have HR1_1 := zA hr1_1; have HC1_1 := zA hc1_1; clear hr1_1 hc1_1; have HR1_2 := zA hr1_2; have HC1_2 := zA hc1_2; clear hr1_2 hc1_2; have HB := zA (Below.refl w.heap.size w); have H : (if a0_0 = a1_0 then ((laws_eqStringS.f k l0_1 l1_1).bind fun t13 => (if t13 = true then ((laws_eqStringS.f k l0_2 l1_2).bind fun t14 => (if t14 = true then (some true) else (some false))) else (some false))) else (some false)) = some r := h; clear h
 by_cases c3 : a0_0 = a1_0
 ·rw [if_pos c3] at H
  have c3b0 : (a0_0 == a1_0) = true := beq_iff_eq.mpr c3; have c3b1 : (a0_0 != a1_0) = false := bne_eq_false_iff_eq.mpr c3; clear c3; replace H := zAF H; obtain ⟨t13, A40, H⟩ := H; replace H : (if t13 = true then ((laws_eqStringS.f k l0_2 l1_2).bind fun t14 => (if t14 = true then (some true) else (some false))) else (some false)) = some r := H; have A4 := zA A40; clear A40
  by_cases c5 : t13 = true
  ·subst c5
   have H1 : ((laws_eqStringS.f k l0_2 l1_2).bind fun t14 => (if t14 = true then (some true) else (some false))) = some r := by rw [if_pos rfl] at H; exact H
   clear H; have H := H1; clear H1; replace H := zAF H; obtain ⟨t14, A60, H⟩ := H; replace H : (if t14 = true then (some true) else (some false)) = some r := H; have A6 := zA A60; clear A60
   by_cases c7 : t14 = true
   ·subst c7
    have H1 : (some true) = some r := by rw [if_pos rfl] at H; exact H
    clear H; have H := H1; clear H1; obtain rfl := yM H; go_enter Try.func27, Try.ntmps27; go_wp2_with (first | ((with_reducible refine gate_dst (N := 2) rfl ?_); refine box_event ?hg (N := 2) ?hd (cs := #[.int .i64 a0_0, .slice A0_1 l0_1.length c0_1, .slice A0_2 l0_2.length c0_2]) (t := 47) ?hr ?_; (case hd => rfl); (case hg => rfl); (case hr => first | (go_simp; done) | (go_simp; rfl)); intro gb15 hg w8 hbox hb; have n0_ := zA (zAD (by (with_reducible repeat first | exact HB.out | apply zH | apply zF | apply zG) <;> exact HB.out) hb); have n1_ := zA (hbox); have n2_ := zA ((by rw [hg]; exact (zAE (by (with_reducible repeat first | exact HB.out | apply zH | apply zF | apply zG) <;> exact HB.out)) : w.heap.size ≤ gb15)); have n3_ := zA ((by rw [hg]; exact (zAE (by (with_reducible repeat first | exact HB.out | apply zH | apply zF | apply zG) <;> exact HB.out)) : w.heap.size ≤ gb15)); clear HB; have HB := n0_; have BK15 := n1_; have GW15 := n2_; have GE15 := n3_; clear n0_ n1_ n2_ n3_; clear hb hbox hg) | ((with_reducible refine gate_dst (N := 3) rfl ?_); refine box_event ?hg (N := 3) ?hd (cs := #[.int .i64 a1_0, .slice A1_1 l1_1.length c1_1, .slice A1_2 l1_2.length c1_2]) (t := 47) ?hr ?_; (case hd => rfl); (case hg => rfl); (case hr => first | (go_simp; done) | (go_simp; rfl)); intro gb16 hg w9 hbox hb; have n0_ := zA (yE (g := gb15) (o := .cells #[.int .i64 a0_0, .slice A0_1 l0_1.length c0_1, .slice A0_2 l0_2.length c0_2] 47 (0, 0)) (by (with_reducible repeat (first | refine zL ?_ _ | refine zN ?_ | refine zM ?_ _)); exact BK15.out) hb); have n1_ := zA (zAD (by repeat (first | (with_reducible first | exact HB.out | apply zH | apply zF | apply zG | refine zI ?_ GE15.out) | exact HB.out)) hb); have n2_ := zA (hbox); have n3_ := zA ((by rw [hg]; exact (zAE (by repeat (first | (with_reducible first | exact HB.out | apply zH | apply zF | apply zG | refine zI ?_ GE15.out) | exact HB.out))) : w.heap.size ≤ gb16)); have n4_ := zA ((by rw [hg]; exact (zAE (by repeat (first | (with_reducible first | exact HB.out | apply zH | apply zF | apply zG | refine zI ?_ GE15.out) | exact HB.out))) : w.heap.size ≤ gb16)); have n5_ := zA ((by rw [hg]; exact zK (blk_lt (g := gb15) (o := .cells #[.int .i64 a0_0, .slice A0_1 l0_1.length c0_1, .slice A0_2 l0_2.length c0_2] 47 (0, 0)) (by (with_reducible repeat (first | refine zL ?_ _ | refine zN ?_ | refine zM ?_ _)); exact BK15.out)) : gb15 ≠ gb16)); have n6_ := zA ((by rw [hg]; exact Nat.ne_of_gt (blk_lt (g := gb15) (o := .cells #[.int .i64 a0_0, .slice A0_1 l0_1.length c0_1, .slice A0_2 l0_2.length c0_2] 47 (0, 0)) (by (with_reducible repeat (first | refine zL ?_ _ | refine zN ?_ | refine zM ?_ _)); exact BK15.out)) : gb16 ≠ gb15)); clear BK15; clear HB; have BK15 := n0_; have HB := n1_; have BK16 := n2_; have GW16 := n3_; have GE16 := n4_; have NB15_16 := n5_; have NB16_15 := n6_; clear n0_ n1_ n2_ n3_ n4_ n5_ n6_; clear hb hbox hg; have hnb10 := NB15_16.out; have hnc10 := NB16_15.out; have hcz11_0 := yL BK15.out 0 (.int .i64 a0_0) rfl; have hcz11_1 := yL BK15.out 1 (.slice A0_1 l0_1.length c0_1) rfl; have hcz11_2 := yL BK15.out 2 (.slice A0_2 l0_2.length c0_2) rfl; have hfz11_0 := zO BK15.out 0; have hfz11_1 := zO BK15.out 1; have hfz11_2 := zO BK15.out 2; have hcz12_0 := yL BK16.out 0 (.int .i64 a1_0) rfl; have hcz12_1 := yL BK16.out 1 (.slice A1_1 l1_1.length c1_1) rfl; have hcz12_2 := yL BK16.out 2 (.slice A1_2 l1_2.length c1_2) rfl; have hfz12_0 := zO BK16.out 0; have hfz12_1 := zO BK16.out 1; have hfz12_2 := zO BK16.out 2) | ((with_reducible refine yB (f := 87) rfl ?_); refine goesL_ (some 14) rfl rfl Try.func87 (by kernel_rfl) rfl #[.slice A0_1 l0_1.length c0_1, .slice A1_1 l1_1.length c1_1] rfl (by (try simp only [zAA, zAB, zAC]); first | done | rfl | (simp only [zZ, zY]; rfl)) ?_; (with_reducible refine (laws_eqStringS.calls k _ _ l0_1 _ _ l1_1 true _ ?side1 ?side2 ?side3 ?side4 A4.out ⟨rfl⟩).mono ?_); (case side1 => repeat (first | exact (yN HR0_1.out HB.out) | (with_reducible first | refine zT ?_ _ | refine zU ?_ _ | refine zV ?_))); (case side2 => exact HC0_1.out); (case side3 => repeat (first | exact (yN HR1_1.out HB.out) | (with_reducible first | refine zT ?_ _ | refine zU ?_ _ | refine zV ?_))); (case side4 => exact HC1_1.out); rintro e w' ⟨rfl, ⟨nd, rfl⟩⟩; refine ⟨_, rfl, ?_⟩) | ((with_reducible refine yB (f := 87) rfl ?_); refine goesL_ (some 20) rfl rfl Try.func87 (by kernel_rfl) rfl #[.slice A0_2 l0_2.length c0_2, .slice A1_2 l1_2.length c1_2] rfl (by (try simp only [zAA, zAB, zAC]); first | done | rfl | (simp only [zZ, zY]; rfl)) ?_; (with_reducible refine (laws_eqStringS.calls k _ _ l0_2 _ _ l1_2 true _ ?side1 ?side2 ?side3 ?side4 A6.out ⟨rfl⟩).mono ?_); (case side1 => repeat (first | exact (yN HR0_2.out (by repeat (first | (with_reducible first | exact HB.out | apply zH | apply zF | apply zG | refine zI ?_ GE15.out | refine zI ?_ GE16.out) | exact HB.out))) | (with_reducible first | refine zT ?_ _ | refine zU ?_ _ | refine zV ?_))); (case side2 => exact HC0_2.out); (case side3 => repeat (first | exact (yN HR1_2.out (by repeat (first | (with_reducible first | exact HB.out | apply zH | apply zF | apply zG | refine zI ?_ GE15.out | refine zI ?_ GE16.out) | exact HB.out))) | (with_reducible first | refine zT ?_ _ | refine zU ?_ _ | refine zV ?_))); (case side4 => exact HC1_2.out); rintro e w' ⟨rfl, ⟨nd, rfl⟩⟩; refine ⟨_, rfl, ?_⟩))
    go_ret; exact ⟨by first | rfl | (simp <;> rfl) | (simp [*] <;> rfl), by repeat (first | (with_reducible first | exact HB.out | apply zH | apply zF | apply zG | refine zI ?_ GE15.out | refine zI ?_ GE16.out) | exact HB.out)⟩
   ·replace c7 := yO c7
    subst c7; have H1 : (some false) = some r := by rw [if_neg (show ¬ (false = true) by decide)] at H; exact H
    clear H; have H := H1; clear H1; exact absurd ((yM H).trans hr_.out) (by decide)
  ·replace c5 := yO c5
   subst c5; have H1 : (some false) = some r := by rw [if_neg (show ¬ (false = true) by decide)] at H; exact H
   clear H; have H := H1; clear H1; exact absurd ((yM H).trans hr_.out) (by decide)
 ·rw [if_neg c3] at H
  have c3b0 : (a0_0 == a1_0) = false := beq_eq_false_iff_ne.mpr c3; have c3b1 : (a0_0 != a1_0) = true := bne_iff_ne.mpr c3; exact absurd ((yM H).trans hr_.out) (by decide)
def laws_markText.l0 : Nat → Int → ByteArray → Option (ByteArray)
 | 0, _, _ => none
 | k + 1, x0, x3 => if x0 > 0 then ((some (([(wrap64 (48 + (Int.tmod x0 10))) % 256] : List Int) : List Int)).bind fun y10 => (if (strOfNums y10).size + x3.size ≤ 9223372036854775807 then (laws_markText.l0 k (wrap64 (Int.tdiv x0 10)) ((strOfNums y10) ++ x3)) else (none))) else (if 1 + x3.size ≤ 9223372036854775807 then (some ((⟨#[109]⟩ : ByteArray) ++ x3)) else (none))
def laws_markText.f (k : Nat) (a0 : Int) : Option (ByteArray) := if a0 ≤ 0 then (some (⟨#[109, 48]⟩ : ByteArray)) else (laws_markText.l0 k a0 (⟨#[]⟩ : ByteArray))
theorem laws_markText.calls (k : Nat) (a0 : Int) (r : ByteArray) (w : World) (h : laws_markText.f k a0 = some r) :
  Calls Try.prog 166 #[.int .i64 a0] w fun e w' => e = .returned (.string r) ∧ Below w.heap.size w w' := by
 have HB := zA (Below.refl w.heap.size w); have H : (if a0 ≤ 0 then (some (⟨#[109, 48]⟩ : ByteArray)) else (laws_markText.l0 k a0 (⟨#[]⟩ : ByteArray))) = some r := h; clear h
 by_cases c2 : a0 ≤ 0
 ·rw [if_pos c2] at H
  have c2b0 : decide (a0 ≤ 0) = true := zX c2; clear c2; obtain rfl := yM H; go_enter Try.func166, Try.ntmps166; go_wp2; go_ret; exact ⟨by first | rfl | (simp <;> rfl) | (simp [*] <;> rfl), by (with_reducible repeat first | exact HB.out | apply zH | apply zF | apply zG) <;> exact HB.out⟩
 ·rw [if_neg c2] at H
  have c2b0 : decide (a0 ≤ 0) = false := decide_eq_false c2; clear c2; have H' := zA H; clear H; go_enter Try.func166, Try.ntmps166; go_wp2; go_loopg [0, 3] k (fun kq v0 v3 w' => ∃ (x0_1 : Int) (x3_1 : ByteArray), v0 = .int .i64 x0_1 ∧ v3 = .string x3_1 ∧ Aside0 (laws_markText.l0 kq x0_1 x3_1 = some r) ∧ Aside0 (kq ≤ k) ∧ Aside0 (Below w.heap.size w w'))
  case atStart => exact ⟨(a0), ((⟨#[]⟩ : ByteArray)), (by first | rfl | (simp; done) | (simp [*]; done) | (simp [bne]; done)), (by first | rfl | (simp; done) | (simp [*]; done) | (simp [bne]; done)), H', ⟨Nat.le_refl _⟩, ⟨by (with_reducible repeat first | exact HB.out | apply zH | apply zF | apply zG) <;> exact HB.out⟩⟩
  case round =>
   clear H'
   try clear c1
   try clear c2
   try clear c2b0
   try clear p2
   obtain ⟨x0_1, x3_1, rfl, rfl, HA, HK1, HB⟩ := hrel
   cases gk with
   | zero => exact absurd HA.out (by simp [laws_markText.l0])
   | succ k1 =>
    have H := HA.out; clear HA; simp only [laws_markText.l0] at H
    by_cases c3 : x0_1 > 0
    ·rw [if_pos c3] at H
     have c3b0 : decide (0 < x0_1) = true := zX c3; clear c3; obtain ⟨y10, hy10⟩ : ∃ y_ : List Int, y_ = (([(wrap64 (48 + (Int.tmod x0_1 10))) % 256] : List Int)) := ⟨_, rfl⟩; replace H : (if (strOfNums y10).size + x3_1.size ≤ 9223372036854775807 then (laws_markText.l0 k1 (wrap64 (Int.tdiv x0_1 10)) ((strOfNums y10) ++ x3_1)) else (none)) = some r := by first | (rw [hy10]; with_reducible exact H) | (have H2_ := (Option.bind_some _ _).symm.trans H; rw [hy10]; with_reducible exact H2_) | (have H2_ := (Option.bind_some _ _).symm.trans H; with_reducible exact H2_) | with_reducible exact H | (rw [hy10]; exact H) | exact H
     have Ny10 := zA hy10; clear hy10
     by_cases c4 : (strOfNums y10).size + x3_1.size ≤ 9223372036854775807
     ·rw [if_pos c4] at H
      have c4b0 := eq_true c4; have c4b1 : decide ((strOfNums y10).size + x3_1.size ≤ 9223372036854775807) = true := zX c4
      try have c4b2 : (9223372036854775807 < (strOfNums y10).size + x3_1.size) = False := eq_false (Nat.not_lt.2 c4)
      have H' := zA H; clear H; go_wp2_with (first | ((with_reducible refine gate_dst (N := 12) rfl ?_); refine Kd.R_lit (Kd.int .u8) _ 5 ?hg (N := 12) ?hd (xs := ([(wrap64 (48 + (Int.tmod x0_1 10))) % 256] : List Int)) (inner := [.int .u8 ((wrap64 (48 + (Int.tmod x0_1 10))) % 256)]) (ok := fun _ => True) (okp := fun _ => True) ?hr ?hp (fun _ hk => hk) trivial (Below.refl _ _) (Nat.le_refl _) (by simp) ?_; (case hd => rfl); (case hg => rfl); (case hr => first | (go_simp; done) | (go_simp; rfl)); (case hp => exact (Reps.one (show Kd.M (Kd.int .u8) _ _ _ ((wrap64 (48 + (Int.tmod x0_1 10))) % 256) [.int .u8 ((wrap64 (48 + (Int.tmod x0_1 10))) % 256)] from rfl) (Reps.none _ _))); intro v11 w5 ho6 hb hg_ hnew_; clear hg_ hnew_; (first | rw [← Ny10.out] at ho6 | (simp only [Int.reduceToNat] at ho6; rw [← Ny10.out] at ho6)); have n0_ := zA (Kd.R_lower ho6 (zAE (by (with_reducible repeat first | exact HB.out | apply zH | apply zF | apply zG) <;> exact HB.out))); have n1_ := zA (zAD (by (with_reducible repeat first | exact HB.out | apply zH | apply zF | apply zG) <;> exact HB.out) hb); clear HB; have HO12 := n0_; have HB := n1_; clear n0_ n1_; clear hb ho6; have hcv7 := own_string (P := Try.prog) Try.underlying22 Try.underlying5 Try.underlying9 (Kd.own_of_R HO12.out))); go_roundg k1
      case measure => have := HK1.out; omega
      case rel => exact ⟨(wrap64 (Int.tdiv x0_1 10)), ((strOfNums y10) ++ x3_1), (by first | rfl | (simp; done) | (simp [*]; done) | (simp [bne]; done)), (by first | rfl | (simp; done) | (simp [*]; done) | (simp [bne]; done)), H', ⟨by have := HK1.out; omega⟩, ⟨by (with_reducible repeat first | exact HB.out | apply zH | apply zF | apply zG) <;> exact HB.out⟩⟩
     ·rw [if_neg c4] at H
      exact absurd H (by simp)
    ·rw [if_neg c3] at H
     have c3b0 : decide (0 < x0_1) = false := decide_eq_false c3; clear c3
     by_cases c8 : 1 + x3_1.size ≤ 9223372036854775807
     ·rw [if_pos c8] at H
      have c8b0 := eq_true c8; have c8b1 : decide (1 + x3_1.size ≤ 9223372036854775807) = true := zX c8
      try have c8b2 : (9223372036854775807 < 1 + x3_1.size) = False := eq_false (Nat.not_lt.2 c8)
      obtain rfl := yM H; go_wp2; go_ret; exact ⟨by first | rfl | (simp <;> rfl) | (simp [*] <;> rfl), by (with_reducible repeat first | exact HB.out | apply zH | apply zF | apply zG) <;> exact HB.out⟩
     ·rw [if_neg c8] at H
      exact absurd H (by simp)
def laws_markStringS.l0 : Nat → List ByteArray → Int → Int → Option (Int × List ByteArray)
 | 0, _, _, _ => none
 | k + 1, x0, x1, x5 => if x5 < (x0.length : Int) then ((laws_markText.f k x1).bind fun t10 => (if 0 ≤ x5 then (laws_markStringS.l0 k (x0.set (x5 : Int).toNat t10) (wrap64 (x1 + 1)) (wrap64 (x5 + 1))) else (none))) else (some (x1, x0))
def laws_markStringS.f (k : Nat) (l0 : List ByteArray) (a1 : Int) : Option (Int × List ByteArray) := laws_markStringS.l0 k l0 a1 0
theorem laws_markStringS.calls (k : Nat) (P0_ : Nat → Prop) (u9000_ : Value) (l0 : List ByteArray) (a1 : Int) (r1 : Int) (r2 : List ByteArray) (w0 w : World) (hB : Below w0.heap.size w0 w) (ho0 : Kd.R Kd.string 9 w w0.heap.size P0_ u9000_ l0) (h : laws_markStringS.f k l0 a1 = some (r1, r2)) :
  Calls Try.prog 88 #[u9000_, .int .i64 a1] w fun e w' => e = .returned (.int .i64 r1) ∧ Kd.R Kd.string 9 w' w0.heap.size (fun k_ => (P0_ k_ ∨ w.heap.size ≤ k_)) u9000_ r2 ∧ Below w0.heap.size w0 w' ∧ Kept w w' (fun k_ => P0_ k_) := by
 have HO0 := zA (show Kd.R Kd.string 9 w w0.heap.size (fun k_ => (P0_ k_ ∨ w.heap.size ≤ k_)) u9000_ l0 from yC ho0 (fun k_ hk => (.inl hk))); have HK := zA (Kept.refl w (fun k_ => P0_ k_)); have HW0 := zA hB.size; have HB := zA hB; clear hB; have H : (laws_markStringS.l0 k l0 a1 0) = some (r1, r2) := h; clear h; have H' := zA H; clear H; go_enter Try.func88, Try.ntmps88; go_wp2; go_loopg [1, 5] k (fun kq v1 v5 w' => ∃ (x0_1 : List ByteArray) (x1_1 : Int) (x5_1 : Int), v1 = .int .i64 x1_1 ∧ v5 = .int .i64 x5_1 ∧ Aside0 (laws_markStringS.l0 kq x0_1 x1_1 x5_1 = some (r1, r2)) ∧ Aside0 (kq ≤ k) ∧ Aside0 (Kd.R Kd.string 9 w' w0.heap.size (fun k_ => (P0_ k_ ∨ w.heap.size ≤ k_)) u9000_ x0_1) ∧ Aside0 (Kept w w' (fun k_ => P0_ k_)) ∧ Aside0 (Below w0.heap.size w0 w'))
 case atStart => exact ⟨(l0), (a1), (0), (by first | rfl | (simp; done) | (simp [*]; done) | (simp [bne]; done)), (by first | rfl | (simp; done) | (simp [*]; done) | (simp [bne]; done)), H', ⟨Nat.le_refl _⟩, ⟨by (with_reducible repeat first | apply zQ | apply zR | apply zS); exact HO0.out⟩, ⟨by repeat (first | (with_reducible first | exact HK.out | apply Kept.alloc | apply Kept.drewN | apply Kept.drew) | exact HK.out)⟩, ⟨by (with_reducible repeat first | exact HB.out | apply zH | apply zF | apply zG) <;> exact HB.out⟩⟩
 case round =>
  clear H'
  try clear p2
  obtain ⟨x0_1, x1_1, x5_1, rfl, rfl, HA, HK1, HO_0, HK, HB⟩ := hrel
  cases gk with
  | zero => exact absurd HA.out (by simp [laws_markStringS.l0])
  | succ k1 =>
   have H := HA.out; clear HA; simp only [laws_markStringS.l0] at H
   by_cases c3 : x5_1 < (x0_1.length : Int)
   ·rw [if_pos c3] at H
    have c3b0 : decide (x5_1 < (x0_1.length : Int)) = true := zX c3; clear c3; replace H := zAF H; obtain ⟨t12, A40, H⟩ := H; replace H : (if 0 ≤ x5_1 then (laws_markStringS.l0 k1 (x0_1.set (x5_1 : Int).toNat t12) (wrap64 (x1_1 + 1)) (wrap64 (x5_1 + 1))) else (none)) = some (r1, r2) := H; have A4 := zA A40; clear A40
    by_cases c5 : 0 ≤ x5_1
    ·rw [if_pos c5] at H
     have c5b0 : decide (0 ≤ x5_1) = true := zX c5; clear c5; obtain ⟨y13, hy13⟩ : ∃ y_ : List ByteArray, y_ = (x0_1.set (x5_1 : Int).toNat t12) := ⟨_, rfl⟩; replace H : (laws_markStringS.l0 k1 y13 (wrap64 (x1_1 + 1)) (wrap64 (x5_1 + 1))) = some (r1, r2) := by first | (rw [hy13]; with_reducible exact H) | (have H2_ := (Option.bind_some _ _).symm.trans H; rw [hy13]; with_reducible exact H2_) | (have H2_ := (Option.bind_some _ _).symm.trans H; with_reducible exact H2_) | with_reducible exact H | (rw [hy13]; exact H) | exact H
     have Ny13 := zA hy13; clear hy13; have H' := zA H; clear H; obtain ⟨Ao7, co7, eo7⟩ := Kd.R_slice HO_0.out; subst eo7; go_wp2_with (first | ((with_reducible refine yB (f := 166) rfl ?_); refine goesL_ (some 15) rfl rfl Try.func166 (by kernel_rfl) rfl #[.int .i64 x1_1] rfl (by (try simp only [zAA, zAB, zAC]); first | done | rfl) ?_; (with_reducible refine (laws_markText.calls k1 x1_1 t12 _ A4.out).mono ?_); rintro e w8 ⟨rfl, hb⟩; refine ⟨_, rfl, ?_⟩; have n0_ := zA (Kd.R_below (by (with_reducible repeat first | apply zQ | apply zR | apply zS); exact HO_0.out) hb); have n1_ := zA (Kept.below (S := (fun k_ => P0_ k_)) (by repeat (first | (with_reducible first | exact HK.out | apply Kept.alloc | apply Kept.drewN | apply Kept.drew) | exact HK.out)) hb); have n2_ := zA (zAD (by (with_reducible repeat first | exact HB.out | apply zH | apply zF | apply zG) <;> exact HB.out) hb); clear HO_0; clear HK; clear HB; have HO_0 := n0_; have HK := n1_; have HB := n2_; clear n0_ n1_ n2_; (try clear hb); have p6 : 0 ≤ (x5_1 : Int) := zW (by first | (with_reducible assumption) | assumption); have q6 : (x5_1 : Int) < ((x0_1.length : Int) : Int) := zW (by first | (with_reducible assumption) | assumption); obtain ⟨go6, co6, eo6, gb6, gl6, cl6, HG6⟩ := Kd.R_form HO_0.out (by omega); (first | cases eo6 | (injection eo6 with ea_ en_ ec_; (first | subst ea_ | (injection ea_ with ea_; subst ea_)); subst ec_; clear en_)); have GB6 := zA gb6; have GG6 := zA HG6; clear gb6 gl6 HG6; have HMgo6 := zA (show (P0_ go6 ∨ w.heap.size ≤ go6) from (HO_0.out.1 _ rfl)); obtain ⟨hx6_0, hf6_0⟩ := Kd.R_celln (⟨#[]⟩ : ByteArray) HO_0.out (x5_1 : Int) p6 q6; replace p6 := eq_true p6; replace q6 := eq_true q6; obtain ⟨hy9_, hz9_⟩ := Kd.R_celln (⟨#[]⟩ : ByteArray) HO_0.out (x5_1 : Int) (zW (by first | (with_reducible assumption) | assumption)) (zW (by first | (with_reducible assumption) | assumption)); have HP9 := Kd.R_putg HO_0.out (x5_1 : Int) t12) | ((with_reducible refine gate_store (t := 9) (p := 16) rfl ?_); refine store_event (t := 9) (p := 16) (v := ?vo_w10) (w1 := (w8.setCell ⟨go6, (x5_1 : Int).toNat, none⟩ (.string t12))) ?hg ?ho ?hn ?hr ?_; (case ho => rfl); (case hg => rfl); (case hn => rfl); (case hr => first | (go_simp; done) | (go_simp; rfl)); intro w10 hw; have hg : w8.grownBy w10 (some go6) := (by rw [hw]; exact HP9.2); have hp_ : Kd.R Kd.string 9 w10 w0.heap.size (fun k_ => (P0_ k_ ∨ w.heap.size ≤ k_)) (.slice (some ⟨go6, 0, none⟩) x0_1.length co7) y13 := (by rw [hw, Ny13.out]; exact HP9.1); clear HP9; have n0_ := zA (hp_); have n1_ := zA ((by rw [hw]; exact zI (HB.out) GB6.out : Below w0.heap.size w0 w10)); have n2_ := zA (Kept.of_grown (S := (fun k_ => P0_ k_)) hg (by repeat (first | (with_reducible first | exact HK.out | apply Kept.alloc | apply Kept.drewN | apply Kept.drew) | exact HK.out)) (fun k_ e_ => (HO_0.out.1 k_ e_))); clear HO_0; clear HB; clear HK; have HO_0 := n0_; have HB := n1_; have HK := n2_; clear n0_ n1_ n2_; clear hg hw hp_)); go_roundg k1
     case measure => have := HK1.out; omega
     case rel => exact ⟨(y13), (wrap64 (x1_1 + 1)), (wrap64 (x5_1 + 1)), (by first | rfl | (simp; done) | (simp [*]; done) | (simp [bne]; done)), (by first | rfl | (simp; done) | (simp [*]; done) | (simp [bne]; done)), H', ⟨by have := HK1.out; omega⟩, ⟨by (with_reducible repeat first | apply zQ | apply zR | apply zS); exact HO_0.out⟩, ⟨by repeat (first | (with_reducible first | exact HK.out | apply Kept.alloc | apply Kept.drewN | apply Kept.drew) | exact HK.out)⟩, ⟨by (with_reducible repeat first | exact HB.out | apply zH | apply zF | apply zG) <;> exact HB.out⟩⟩
    ·rw [if_neg c5] at H
     exact absurd H (by simp)
   ·rw [if_neg c3] at H
    have c3b0 : decide (x5_1 < (x0_1.length : Int)) = false := decide_eq_false c3; clear c3; simp only [Option.some.injEq, Prod.mk.injEq] at H; obtain ⟨rfl, rfl⟩ := H; obtain ⟨Ao11, co11, eo11⟩ := Kd.R_slice HO_0.out; subst eo11; go_wp2; go_ret; exact ⟨by first | rfl | (simp <;> rfl) | (simp [*] <;> rfl), by (with_reducible repeat first | apply zQ | apply zR | apply zS); exact HO_0.out, by (with_reducible repeat first | exact HB.out | apply zH | apply zF | apply zG) <;> exact HB.out, by repeat (first | (with_reducible first | exact HK.out | apply Kept.alloc | apply Kept.drewN | apply Kept.drew) | exact HK.out)⟩
def laws_markSeal.f (k : Nat) (a0_0 : Int) (l0_1 : List ByteArray) (l0_2 : List ByteArray) (a1 : Int) : Option (Int × List ByteArray × List ByteArray) := (laws_markStringS.f k l0_1 a1).bind fun bt10 => ((laws_markStringS.f k l0_2 bt10.1).bind fun bt11 => (some (bt11.1, bt10.2, bt11.2)))
theorem laws_markSeal.calls (k : Nat) (a0_0 : Int) (P0_1_ : Nat → Prop) (u9000_ : Value) (l0_1 : List ByteArray) (P0_2_ : Nat → Prop) (u9001_ : Value) (l0_2 : List ByteArray) (a1 : Int) (r1 : Int) (r2 : List ByteArray) (r3 : List ByteArray) (w0 w : World) (hB : Below w0.heap.size w0 w) (ho0_1 : Kd.R Kd.string 9 w w0.heap.size P0_1_ u9000_ l0_1) (hp0_1_0_2 : ∀ k_, P0_1_ k_ → ¬ P0_2_ k_) (ho0_2 : Kd.R Kd.string 9 w w0.heap.size P0_2_ u9001_ l0_2) (hp0_2_0_1 : ∀ k_, P0_2_ k_ → ¬ P0_1_ k_) (h : laws_markSeal.f k a0_0 l0_1 l0_2 a1 = some (r1, r2, r3)) :
  Calls Try.prog 28 #[.agg #[.int .i64 a0_0, u9000_, u9001_], .int .i64 a1] w fun e w' => e = .returned (.int .i64 r1) ∧ Kd.R Kd.string 9 w' w0.heap.size (fun k_ => ((P0_1_ k_ ∨ P0_2_ k_) ∨ w.heap.size ≤ k_)) u9000_ r2 ∧ Kd.R Kd.string 9 w' w0.heap.size (fun k_ => ((P0_1_ k_ ∨ P0_2_ k_) ∨ w.heap.size ≤ k_)) u9001_ r3 ∧ Below w0.heap.size w0 w' ∧ Kept w w' (fun k_ => P0_1_ k_ ∨ P0_2_ k_) := by
 have hu47 := Try.underlying47; have HO0_1 := zA (show Kd.R Kd.string 9 w w0.heap.size (fun k_ => ((P0_1_ k_ ∨ P0_2_ k_) ∨ w.heap.size ≤ k_) ∧ some k_ ≠ (u9001_ : Value).ownBlock) u9000_ l0_1 from yC ho0_1 (fun k_ hk => ⟨(.inl (.inl hk)), fun e_ => hp0_1_0_2 k_ hk (ho0_2.1 k_ e_.symm)⟩)); have HO0_2 := zA (show Kd.R Kd.string 9 w w0.heap.size (fun k_ => ((P0_1_ k_ ∨ P0_2_ k_) ∨ w.heap.size ≤ k_) ∧ some k_ ≠ (u9000_ : Value).ownBlock) u9001_ l0_2 from yC ho0_2 (fun k_ hk => ⟨(.inl (.inr hk)), fun e_ => hp0_2_0_1 k_ hk (ho0_1.1 k_ e_.symm)⟩)); have HK := zA (Kept.refl w (fun k_ => P0_1_ k_ ∨ P0_2_ k_)); have HW0 := zA hB.size; have HB := zA hB; clear hB; have H : ((laws_markStringS.f k l0_1 a1).bind fun bt12 => ((laws_markStringS.f k l0_2 bt12.1).bind fun bt13 => (some (bt13.1, bt12.2, bt13.2)))) = some (r1, r2, r3) := h; clear h; replace H := zAF H; obtain ⟨⟨t12, t14⟩, A30, H⟩ := H; replace H : ((laws_markStringS.f k l0_2 t12).bind fun bt13 => (some (bt13.1, t14, bt13.2))) = some (r1, r2, r3) := H; have A3 := zA A30; clear A30; replace H := zAF H; obtain ⟨⟨t13, t15⟩, A40, H⟩ := H; replace H : (some (t13, t14, t15)) = some (r1, r2, r3) := H; have A4 := zA A40; clear A40; simp only [Option.some.injEq, Prod.mk.injEq] at H; obtain ⟨rfl, rfl, rfl⟩ := H; obtain ⟨Ao5, co5, eo5⟩ := Kd.R_slice HO0_1.out; subst eo5; obtain ⟨Ao6, co6, eo6⟩ := Kd.R_slice HO0_2.out; subst eo6; go_enter Try.func28, Try.ntmps28; go_wp2_with (first | ((with_reducible refine gate_dst (N := 2) rfl ?_); refine box_event ?hg (N := 2) ?hd (cs := #[.int .i64 a0_0, .slice Ao5 l0_1.length co5, .slice Ao6 l0_2.length co6]) (t := 47) ?hr ?_; (case hd => rfl); (case hg => rfl); (case hr => first | (go_simp; done) | (go_simp; rfl)); intro gb16 hg w7 hbox hb; have n0_ := zA (Kd.R_below (by (with_reducible repeat first | apply zQ | apply zR | apply zS); exact HO0_1.out) hb); have n1_ := zA (Kd.R_below (by (with_reducible repeat first | apply zQ | apply zR | apply zS); exact HO0_2.out) hb); have n2_ := zA (Kept.below (S := (fun k_ => P0_1_ k_ ∨ P0_2_ k_)) (by repeat (first | (with_reducible first | exact HK.out | apply Kept.alloc | apply Kept.drewN | apply Kept.drew) | exact HK.out)) hb); have n3_ := zA (zAD (by (with_reducible repeat first | exact HB.out | apply zH | apply zF | apply zG) <;> exact HB.out) hb); have n4_ := zA (hbox); have n5_ := zA ((by rw [hg]; exact (by first | exact HK.out.1 | exact (show Kept w _ (fun k_ => P0_1_ k_ ∨ P0_2_ k_) from by repeat (first | (with_reducible first | exact HK.out | apply Kept.alloc | apply Kept.drewN | apply Kept.drew) | exact HK.out)).1) : w.heap.size ≤ gb16)); have n6_ := zA ((by rw [hg]; exact (zAE (by (with_reducible repeat first | exact HB.out | apply zH | apply zF | apply zG) <;> exact HB.out)) : w0.heap.size ≤ gb16)); clear HO0_1; clear HO0_2; clear HK; clear HB; have HO0_1 := n0_; have HO0_2 := n1_; have HK := n2_; have HB := n3_; have BK16 := n4_; have GW16 := n5_; have GE16 := n6_; clear n0_ n1_ n2_ n3_ n4_ n5_ n6_; clear hb hbox hg; have hcz8_0 := yL BK16.out 0 (.int .i64 a0_0) rfl; have hcz8_1 := yL BK16.out 1 (.slice Ao5 l0_1.length co5) rfl; have hcz8_2 := yL BK16.out 2 (.slice Ao6 l0_2.length co6) rfl; have hfz8_0 := zO BK16.out 0; have hfz8_1 := zO BK16.out 1; have hfz8_2 := zO BK16.out 2) | ((with_reducible refine yB (f := 88) rfl ?_); refine goesL_ (some 8) rfl rfl Try.func88 (by kernel_rfl) rfl #[.slice Ao5 l0_1.length co5, .int .i64 a1] rfl (by (try simp only [zAA, zAB, zAC]); first | done | rfl | (simp only [zZ, zY]; rfl)) ?_; (with_reducible refine (laws_markStringS.calls k (fun k_ => some k_ = (.slice Ao5 l0_1.length co5 : Value).ownBlock) (.slice Ao5 l0_1.length co5) l0_1 a1 t12 t14 w0 _ ?side1 ?side2 A3.out).mono ?_); (case side1 => repeat (first | (with_reducible first | exact HB.out | apply zH | apply zF | apply zG | refine zI ?_ GE16.out) | exact HB.out)); (case side2 => exact Kd.R_tight rfl HO0_1.out); rintro e w9 ⟨rfl, hy0, hb, hkp⟩; refine ⟨_, rfl, ?_⟩; have n0_ := zA (Kd.R_reok rfl hy0 (fun k_ e_ => HO0_1.out.1 k_ e_)); have n1_ := zA (yC (ok' := fun k_ => ((P0_1_ k_ ∨ P0_2_ k_) ∨ w.heap.size ≤ k_) ∧ some k_ ≠ (.slice Ao5 l0_1.length co5 : Value).ownBlock) (Kd.R_keptB (HO0_2.out) hkp (fun k_ hk_ hs_ => (hk_.2) hs_)) (fun k_ hk_ => ⟨hk_.1.1, hk_.1.2⟩)); have n2_ := zA (blk_kept (by (with_reducible repeat (first | refine zL ?_ _ | refine zN ?_ | refine zM ?_ _)); exact BK16.out) hkp (fun hs_ => (fun e_ => (Kd.R_ne HO0_1.out BK16.out (by decide)) e_) hs_)); have n3_ := zA (Kept.then_ (S := (fun k_ => P0_1_ k_ ∨ P0_2_ k_)) (by repeat (first | (with_reducible first | exact HK.out | apply Kept.alloc | apply Kept.drewN | apply Kept.drew | refine Kept.setCell ?_ (.inr GW16.out) _) | exact HK.out)) hkp (fun k_ hs_ => (fun e_ => (HO0_1.out.1 k_ e_.symm).1) hs_)); have n4_ := zA (hb); clear HO0_1; clear HO0_2; clear BK16; clear HK; clear HB; have HO0_1 := n0_; have HO0_2 := n1_; have BK16 := n2_; have HK := n3_; have HB := n4_; clear n0_ n1_ n2_ n3_ n4_; (try clear hb); (try clear hkp); (try clear hy0); have hcz10_0 := yL BK16.out 0 (.int .i64 a0_0) rfl; have hcz10_1 := yL BK16.out 1 (.slice Ao5 l0_1.length co5) rfl; have hcz10_2 := yL BK16.out 2 (.slice Ao6 l0_2.length co6) rfl; have hfz10_0 := zO BK16.out 0; have hfz10_1 := zO BK16.out 1; have hfz10_2 := zO BK16.out 2) | ((with_reducible refine yB (f := 88) rfl ?_); refine goesL_ (some 12) rfl rfl Try.func88 (by kernel_rfl) rfl #[.slice Ao6 l0_2.length co6, .int .i64 t12] rfl (by (try simp only [zAA, zAB, zAC]); first | done | rfl | (simp only [zZ, zY]; rfl)) ?_; (with_reducible refine (laws_markStringS.calls k (fun k_ => some k_ = (.slice Ao6 l0_2.length co6 : Value).ownBlock) (.slice Ao6 l0_2.length co6) l0_2 t12 t13 t15 w0 _ ?side1 ?side2 A4.out).mono ?_); (case side1 => repeat (first | (with_reducible first | exact HB.out | apply zH | apply zF | apply zG | refine zI ?_ GE16.out) | exact HB.out)); (case side2 => exact Kd.R_tight rfl HO0_2.out); rintro e w11 ⟨rfl, hy0, hb, hkp⟩; refine ⟨_, rfl, ?_⟩; have n0_ := zA (yC (ok' := fun k_ => ((P0_1_ k_ ∨ P0_2_ k_) ∨ w.heap.size ≤ k_) ∧ some k_ ≠ (.slice Ao6 l0_2.length co6 : Value).ownBlock) (Kd.R_keptB (HO0_1.out) hkp (fun k_ hk_ hs_ => (hk_.2) hs_)) (fun k_ hk_ => ⟨hk_.1.1, hk_.1.2⟩)); have n1_ := zA (Kd.R_reok rfl hy0 (fun k_ e_ => HO0_2.out.1 k_ e_)); have n2_ := zA (blk_kept (by (with_reducible repeat (first | refine zL ?_ _ | refine zN ?_ | refine zM ?_ _)); exact BK16.out) hkp (fun hs_ => (fun e_ => (Kd.R_ne HO0_2.out BK16.out (by decide)) e_) hs_)); have n3_ := zA (Kept.then_ (S := (fun k_ => P0_1_ k_ ∨ P0_2_ k_)) (by repeat (first | (with_reducible first | exact HK.out | apply Kept.alloc | apply Kept.drewN | apply Kept.drew | refine Kept.setCell ?_ (.inr GW16.out) _) | exact HK.out)) hkp (fun k_ hs_ => (fun e_ => (HO0_2.out.1 k_ e_.symm).1) hs_)); have n4_ := zA (hb); clear HO0_1; clear HO0_2; clear BK16; clear HK; clear HB; have HO0_1 := n0_; have HO0_2 := n1_; have BK16 := n2_; have HK := n3_; have HB := n4_; clear n0_ n1_ n2_ n3_ n4_; (try clear hb); (try clear hkp); (try clear hy0)))
 go_ret; exact ⟨by first | rfl | (simp <;> rfl) | (simp [*] <;> rfl), by (with_reducible repeat first | apply zQ | apply zR | apply zS); exact yC HO0_1.out (fun _ hk => hk.1), by (with_reducible repeat first | apply zQ | apply zR | apply zS); exact yC HO0_2.out (fun _ hk => hk.1), by repeat (first | (with_reducible first | exact HB.out | apply zH | apply zF | apply zG | refine zI ?_ GE16.out) | exact HB.out), by repeat (first | (with_reducible first | exact HK.out | apply Kept.alloc | apply Kept.drewN | apply Kept.drew | refine Kept.setCell ?_ (.inr GW16.out) _) | exact HK.out)⟩
def laws_heldStringS.l0 : Nat → List ByteArray → Int → Int → Option (Int)
 | 0, _, _, _ => none
 | k + 1, x0, x1, x5 => if x5 < (x0.length : Int) then (if 0 ≤ x5 then ((laws_markText.f k x1).bind fun t10 => (if (rdOf ByteArray.empty x0 x5).toList = t10.toList then (laws_heldStringS.l0 k x0 (wrap64 (x1 + 1)) (wrap64 (x5 + 1))) else (some (-1)))) else (none)) else (some x1)
def laws_heldStringS.f (k : Nat) (l0 : List ByteArray) (a1 : Int) : Option (Int) := laws_heldStringS.l0 k l0 a1 0
theorem laws_heldStringS.calls (k : Nat) (A0 : Option Addr) (c0 : Nat) (l0 : List ByteArray) (a1 : Int) (r : Int) (w : World) (hr0 : Kd.C Kd.string w A0 l0.length l0) (hc0 : l0.length ≤ c0) (h : laws_heldStringS.f k l0 a1 = some r) :
  Calls Try.prog 89 #[.slice A0 l0.length c0, .int .i64 a1] w fun e w' => e = .returned (.int .i64 r) ∧ Below w.heap.size w w' := by
 have HR0 := zA hr0; have HC0 := zA hc0; clear hr0 hc0; have HB := zA (Below.refl w.heap.size w); have H : (laws_heldStringS.l0 k l0 a1 0) = some r := h; clear h; have H' := zA H; clear H; go_enter Try.func89, Try.ntmps89; go_wp2; go_loopg [1, 5] k (fun kq v1 v5 w' => ∃ (x1_1 : Int) (x5_1 : Int), v1 = .int .i64 x1_1 ∧ v5 = .int .i64 x5_1 ∧ Aside0 (laws_heldStringS.l0 kq l0 x1_1 x5_1 = some r) ∧ Aside0 (kq ≤ k) ∧ Aside0 (Below w.heap.size w w'))
 case atStart => exact ⟨(a1), (0), (by first | rfl | (simp; done) | (simp [*]; done) | (simp [bne]; done)), (by first | rfl | (simp; done) | (simp [*]; done) | (simp [bne]; done)), H', ⟨Nat.le_refl _⟩, ⟨by (with_reducible repeat first | exact HB.out | apply zH | apply zF | apply zG) <;> exact HB.out⟩⟩
 case round =>
  clear H'
  try clear p2
  obtain ⟨x1_1, x5_1, rfl, rfl, HA, HK1, HB⟩ := hrel
  cases gk with
  | zero => exact absurd HA.out (by simp [laws_heldStringS.l0])
  | succ k1 =>
   have H := HA.out; clear HA; simp only [laws_heldStringS.l0] at H
   by_cases c3 : x5_1 < (l0.length : Int)
   ·rw [if_pos c3] at H
    have c3b0 : decide (x5_1 < (l0.length : Int)) = true := zX c3; clear c3
    by_cases c4 : 0 ≤ x5_1
    ·rw [if_pos c4] at H
     have c4b0 : decide (0 ≤ x5_1) = true := zX c4; clear c4; replace H := zAF H; obtain ⟨t11, A50, H⟩ := H; replace H : (if (rdOf ByteArray.empty l0 x5_1).toList = t11.toList then (laws_heldStringS.l0 k1 l0 (wrap64 (x1_1 + 1)) (wrap64 (x5_1 + 1))) else (some (-1))) = some r := H; have A5 := zA A50; clear A50
     by_cases c6 : (rdOf ByteArray.empty l0 x5_1).toList = t11.toList
     ·rw [if_pos c6] at H
      have c6b0 : ((rdOf ByteArray.empty l0 x5_1).toList == t11.toList) = true := beq_iff_eq.mpr c6; have c6b1 : ((rdOf ByteArray.empty l0 x5_1).toList != t11.toList) = false := bne_eq_false_iff_eq.mpr c6; clear c6; have H' := zA H; clear H
      try go_wp2
      have n0_ := zA (zG HB.out); clear HB; have HB := n0_; clear n0_; have p12 : 0 ≤ (x5_1 : Int) := zW (by first | (with_reducible assumption) | assumption); have q12 : x5_1 < (l0.length : Int) := zW (by first | (with_reducible assumption) | assumption); obtain ⟨ad12, e12, hx12_0⟩ := Kd.at_string HR0.out x5_1 p12 q12; have hw12_0 := hx12_0
      cases e12
      replace hx12_0 := (HB.out.cell (zB w _ hx12_0)).trans hx12_0; replace p12 := eq_true p12; replace q12 := eq_true q12; refine start_ (n := 7) (S := fun w' => w'.cell? (ad12.add (x5_1).toNat) = some (.string (rdOf ByteArray.empty l0 x5_1))) (ds := []) #[false, false, false, false, false, false, false] (by kernel_rfl) rfl rfl (((HB.out.cell (zB w _ hw12_0)).trans hw12_0)) (fun hHeld => ?_); generalize wr.drew = w7 at HB hx12_0 hHeld ⊢; refine pure_ (i := 0) (N := some 12) (v := ?_) (a' := ?_) #[true, false, false, false, false, false, false] rfl rfl (by kernel_rfl) (fun _ _ _ h => h) (Or.inl ⟨by rfl, ?_⟩) ?_ ?_; rotate_left
      ·intro w'
       go_simp
       with_reducible rfl
      rotate_left
      ·simp only [Act.put, zC, zD, zE, i64_w]
       rfl
      refine pure_ (i := 1) (N := some 13) (v := ?_) (a' := ?_) #[true, true, false, false, false, false, false] rfl rfl (by kernel_rfl) (fun _ _ _ h => h) (Or.inl ⟨by rfl, ?_⟩) ?_ ?_; rotate_left
      ·intro w'
       go_simp
       with_reducible rfl
      rotate_left
      ·simp only [Act.put, zC, zD, zE, i64_w]
       rfl
      refine pure_ (i := 2) (N := some 14) (v := ?_) (a' := ?_) #[true, true, true, false, false, false, false] rfl rfl (by kernel_rfl) (fun _ _ _ h => h) (Or.inl ⟨by rfl, ?_⟩) ?_ ?_; rotate_left
      ·intro w'
       go_simp
       with_reducible rfl
      rotate_left
      ·simp only [Act.put, zC, zD, zE, i64_w]
       rfl
      refine pure_ (i := 4) (N := some 16) (v := ?_) (a' := ?_) #[true, true, true, false, true, false, false] rfl rfl (by kernel_rfl) (fun _ _ _ h => h) (Or.inl ⟨by rfl, ?_⟩) ?_ ?_; rotate_left
      ·intro w'
       go_simp
       with_reducible rfl
      rotate_left
      ·simp only [Act.put, zC, zD, zE, i64_w]
       rfl
      refine take_ (i := 3) (N := some 15) (v := ?_) (a' := ?_) #[true, true, true, true, true, false, false] rfl rfl (by kernel_rfl) (fun _ _ _ h => h) (Or.inl ⟨by rfl, ?_⟩) hHeld ?_ ?_; rotate_left
      ·intro w' s0
       go_simp
       with_reducible rfl
      rotate_left
      ·simp only [Act.put, zC, zD, zE, i64_w]
       rfl
      refine one_ (i := 5) (N := some 17) #[true, true, true, true, true, true, false] rfl rfl (by kernel_rfl) (by decide) (fun K hK => ?_); refine goes_ Try.func166 (by kernel_rfl) rfl #[.int .i64 x1_1] (by rfl) rfl rfl (by (try simp only [zAA, zAB, zAC]); first | done | rfl) ?_
      with_reducible refine (laws_markText.calls k1 x1_1 t11 _ A5.out).mono ?_
      rintro e w8 ⟨rfl, hb⟩; refine ⟨_, rfl, ?_⟩; have n0_ := zA (zAD (by (with_reducible repeat first | exact HB.out | apply zH | apply zF | apply zG) <;> exact HB.out) hb); clear HB; have HB := n0_; clear n0_; (try clear hb); refine hK.out _ _ (((HB.out.cell (zB w _ hw12_0)).trans hw12_0)) (fun hHeld => ?_); clear hK K; refine norm_ (a' := ?_) ?_ ?_; rotate_left
      ·show Act.put _ (some 17) _ = _
       simp only [Act.put, zC, zD, zE, i64_w]; rfl
      refine pure_ (i := 6) (N := some 18) (v := ?_) (a' := ?_) #[true, true, true, true, true, true, true] rfl rfl (by kernel_rfl) (fun _ _ _ h => h) (Or.inl ⟨by rfl, ?_⟩) ?_ ?_; rotate_left
      ·intro w'
       go_simp
       with_reducible rfl
      rotate_left
      ·simp only [Act.put, zC, zD, zE, i64_w]
       rfl
      refine done_ (by kernel_rfl) ?_
      try go_wp2
      go_roundg k1
      case measure => have := HK1.out; omega
      case rel => exact ⟨(wrap64 (x1_1 + 1)), (wrap64 (x5_1 + 1)), (by first | rfl | (simp; done) | (simp [*]; done) | (simp [bne]; done)), (by first | rfl | (simp; done) | (simp [*]; done) | (simp [bne]; done)), H', ⟨by have := HK1.out; omega⟩, ⟨by (with_reducible repeat first | exact HB.out | apply zH | apply zF | apply zG) <;> exact HB.out⟩⟩
     ·rw [if_neg c6] at H
      have c6b0 : ((rdOf ByteArray.empty l0 x5_1).toList == t11.toList) = false := beq_eq_false_iff_ne.mpr c6; have c6b1 : ((rdOf ByteArray.empty l0 x5_1).toList != t11.toList) = true := bne_iff_ne.mpr c6; obtain rfl := yM H
      try go_wp2
      have n0_ := zA (zG HB.out); clear HB; have HB := n0_; clear n0_; have p12 : 0 ≤ (x5_1 : Int) := zW (by first | (with_reducible assumption) | assumption); have q12 : x5_1 < (l0.length : Int) := zW (by first | (with_reducible assumption) | assumption); obtain ⟨ad12, e12, hx12_0⟩ := Kd.at_string HR0.out x5_1 p12 q12; have hw12_0 := hx12_0
      cases e12
      replace hx12_0 := (HB.out.cell (zB w _ hx12_0)).trans hx12_0; replace p12 := eq_true p12; replace q12 := eq_true q12; refine start_ (n := 7) (S := fun w' => w'.cell? (ad12.add (x5_1).toNat) = some (.string (rdOf ByteArray.empty l0 x5_1))) (ds := []) #[false, false, false, false, false, false, false] (by kernel_rfl) rfl rfl (((HB.out.cell (zB w _ hw12_0)).trans hw12_0)) (fun hHeld => ?_); generalize wr.drew = w9 at HB hx12_0 hHeld ⊢; refine pure_ (i := 0) (N := some 12) (v := ?_) (a' := ?_) #[true, false, false, false, false, false, false] rfl rfl (by kernel_rfl) (fun _ _ _ h => h) (Or.inl ⟨by rfl, ?_⟩) ?_ ?_; rotate_left
      ·intro w'
       go_simp
       with_reducible rfl
      rotate_left
      ·simp only [Act.put, zC, zD, zE, i64_w]
       rfl
      refine pure_ (i := 1) (N := some 13) (v := ?_) (a' := ?_) #[true, true, false, false, false, false, false] rfl rfl (by kernel_rfl) (fun _ _ _ h => h) (Or.inl ⟨by rfl, ?_⟩) ?_ ?_; rotate_left
      ·intro w'
       go_simp
       with_reducible rfl
      rotate_left
      ·simp only [Act.put, zC, zD, zE, i64_w]
       rfl
      refine pure_ (i := 2) (N := some 14) (v := ?_) (a' := ?_) #[true, true, true, false, false, false, false] rfl rfl (by kernel_rfl) (fun _ _ _ h => h) (Or.inl ⟨by rfl, ?_⟩) ?_ ?_; rotate_left
      ·intro w'
       go_simp
       with_reducible rfl
      rotate_left
      ·simp only [Act.put, zC, zD, zE, i64_w]
       rfl
      refine pure_ (i := 4) (N := some 16) (v := ?_) (a' := ?_) #[true, true, true, false, true, false, false] rfl rfl (by kernel_rfl) (fun _ _ _ h => h) (Or.inl ⟨by rfl, ?_⟩) ?_ ?_; rotate_left
      ·intro w'
       go_simp
       with_reducible rfl
      rotate_left
      ·simp only [Act.put, zC, zD, zE, i64_w]
       rfl
      refine take_ (i := 3) (N := some 15) (v := ?_) (a' := ?_) #[true, true, true, true, true, false, false] rfl rfl (by kernel_rfl) (fun _ _ _ h => h) (Or.inl ⟨by rfl, ?_⟩) hHeld ?_ ?_; rotate_left
      ·intro w' s0
       go_simp
       with_reducible rfl
      rotate_left
      ·simp only [Act.put, zC, zD, zE, i64_w]
       rfl
      refine one_ (i := 5) (N := some 17) #[true, true, true, true, true, true, false] rfl rfl (by kernel_rfl) (by decide) (fun K hK => ?_); refine goes_ Try.func166 (by kernel_rfl) rfl #[.int .i64 x1_1] (by rfl) rfl rfl (by (try simp only [zAA, zAB, zAC]); first | done | rfl) ?_
      with_reducible refine (laws_markText.calls k1 x1_1 t11 _ A5.out).mono ?_
      rintro e w10 ⟨rfl, hb⟩; refine ⟨_, rfl, ?_⟩; have n0_ := zA (zAD (by (with_reducible repeat first | exact HB.out | apply zH | apply zF | apply zG) <;> exact HB.out) hb); clear HB; have HB := n0_; clear n0_; (try clear hb); refine hK.out _ _ (((HB.out.cell (zB w _ hw12_0)).trans hw12_0)) (fun hHeld => ?_); clear hK K; refine norm_ (a' := ?_) ?_ ?_; rotate_left
      ·show Act.put _ (some 17) _ = _
       simp only [Act.put, zC, zD, zE, i64_w]; rfl
      refine pure_ (i := 6) (N := some 18) (v := ?_) (a' := ?_) #[true, true, true, true, true, true, true] rfl rfl (by kernel_rfl) (fun _ _ _ h => h) (Or.inl ⟨by rfl, ?_⟩) ?_ ?_; rotate_left
      ·intro w'
       go_simp
       with_reducible rfl
      rotate_left
      ·simp only [Act.put, zC, zD, zE, i64_w]
       rfl
      refine done_ (by kernel_rfl) ?_
      try go_wp2
      go_ret; exact ⟨by first | rfl | (simp <;> rfl) | (simp [*] <;> rfl), by (with_reducible repeat first | exact HB.out | apply zH | apply zF | apply zG) <;> exact HB.out⟩
    ·rw [if_neg c4] at H
     exact absurd H (by simp)
   ·rw [if_neg c3] at H
    have c3b0 : decide (x5_1 < (l0.length : Int)) = false := decide_eq_false c3; clear c3; obtain rfl := yM H; go_wp2; go_ret; exact ⟨by first | rfl | (simp <;> rfl) | (simp [*] <;> rfl), by (with_reducible repeat first | exact HB.out | apply zH | apply zF | apply zG) <;> exact HB.out⟩
def laws_heldSeal.f (k : Nat) (a0_0 : Int) (l0_1 : List ByteArray) (l0_2 : List ByteArray) (a1 : Int) : Option (Int) := (laws_heldStringS.f k l0_1 a1).bind fun t10 => (if t10 < 0 then (some (-1)) else ((laws_heldStringS.f k l0_2 t10).bind fun t11 => (if t11 < 0 then (some (-1)) else (some t11))))
theorem laws_heldSeal.calls (k : Nat) (a0_0 : Int) (A0_1 : Option Addr) (c0_1 : Nat) (l0_1 : List ByteArray) (A0_2 : Option Addr) (c0_2 : Nat) (l0_2 : List ByteArray) (a1 : Int) (r : Int) (w : World) (hr0_1 : Kd.C Kd.string w A0_1 l0_1.length l0_1) (hc0_1 : l0_1.length ≤ c0_1) (hr0_2 : Kd.C Kd.string w A0_2 l0_2.length l0_2) (hc0_2 : l0_2.length ≤ c0_2) (h : laws_heldSeal.f k a0_0 l0_1 l0_2 a1 = some r) :
  Calls Try.prog 29 #[.agg #[.int .i64 a0_0, .slice A0_1 l0_1.length c0_1, .slice A0_2 l0_2.length c0_2], .int .i64 a1] w fun e w' => e = .returned (.int .i64 r) ∧ Below w.heap.size w w' := by
 have hu47 := Try.underlying47; have HR0_1 := zA hr0_1; have HC0_1 := zA hc0_1; clear hr0_1 hc0_1; have HR0_2 := zA hr0_2; have HC0_2 := zA hc0_2; clear hr0_2 hc0_2; have HB := zA (Below.refl w.heap.size w); have H : ((laws_heldStringS.f k l0_1 a1).bind fun t20 => (if t20 < 0 then (some (-1)) else ((laws_heldStringS.f k l0_2 t20).bind fun t21 => (if t21 < 0 then (some (-1)) else (some t21))))) = some r := h; clear h; replace H := zAF H; obtain ⟨t20, A30, H⟩ := H; replace H : (if t20 < 0 then (some (-1)) else ((laws_heldStringS.f k l0_2 t20).bind fun t21 => (if t21 < 0 then (some (-1)) else (some t21)))) = some r := H; have A3 := zA A30; clear A30
 by_cases c4 : t20 < 0
 ·rw [if_pos c4] at H
  have c4b0 : decide (t20 < 0) = true := zX c4; clear c4; obtain rfl := yM H; go_enter Try.func29, Try.ntmps29; go_wp2_with (first | ((with_reducible refine gate_dst (N := 2) rfl ?_); refine box_event ?hg (N := 2) ?hd (cs := #[.int .i64 a0_0, .slice A0_1 l0_1.length c0_1, .slice A0_2 l0_2.length c0_2]) (t := 47) ?hr ?_; (case hd => rfl); (case hg => rfl); (case hr => first | (go_simp; done) | (go_simp; rfl)); intro gb22 hg w5 hbox hb; have n0_ := zA (zAD (by (with_reducible repeat first | exact HB.out | apply zH | apply zF | apply zG) <;> exact HB.out) hb); have n1_ := zA (hbox); have n2_ := zA ((by rw [hg]; exact (zAE (by (with_reducible repeat first | exact HB.out | apply zH | apply zF | apply zG) <;> exact HB.out)) : w.heap.size ≤ gb22)); have n3_ := zA ((by rw [hg]; exact (zAE (by (with_reducible repeat first | exact HB.out | apply zH | apply zF | apply zG) <;> exact HB.out)) : w.heap.size ≤ gb22)); clear HB; have HB := n0_; have BK22 := n1_; have GW22 := n2_; have GE22 := n3_; clear n0_ n1_ n2_ n3_; clear hb hbox hg; have hcz6_0 := yL BK22.out 0 (.int .i64 a0_0) rfl; have hcz6_1 := yL BK22.out 1 (.slice A0_1 l0_1.length c0_1) rfl; have hcz6_2 := yL BK22.out 2 (.slice A0_2 l0_2.length c0_2) rfl; have hfz6_0 := zO BK22.out 0; have hfz6_1 := zO BK22.out 1; have hfz6_2 := zO BK22.out 2) | ((with_reducible refine yB (f := 89) rfl ?_); refine goesL_ (some 8) rfl rfl Try.func89 (by kernel_rfl) rfl #[.slice A0_1 l0_1.length c0_1, .int .i64 a1] rfl (by (try simp only [zAA, zAB, zAC]); first | done | rfl | (simp only [zZ, zY]; rfl)) ?_; (with_reducible refine (laws_heldStringS.calls k _ _ l0_1 a1 t20 _ ?side1 ?side2 A3.out).mono ?_); (case side1 => repeat (first | exact (yN HR0_1.out HB.out) | (with_reducible first | refine zT ?_ _ | refine zU ?_ _ | refine zV ?_))); (case side2 => exact HC0_1.out); rintro e w7 ⟨rfl, hb⟩; refine ⟨_, rfl, ?_⟩; have n0_ := zA (yE (g := gb22) (o := .cells #[.int .i64 a0_0, .slice A0_1 l0_1.length c0_1, .slice A0_2 l0_2.length c0_2] 47 (0, 0)) (by (with_reducible repeat (first | refine zL ?_ _ | refine zN ?_ | refine zM ?_ _)); exact BK22.out) hb); have n1_ := zA (zAD (by repeat (first | (with_reducible first | exact HB.out | apply zH | apply zF | apply zG | refine zI ?_ GE22.out) | exact HB.out)) hb); clear BK22; clear HB; have BK22 := n0_; have HB := n1_; clear n0_ n1_; (try clear hb))); go_ret; exact ⟨by first | rfl | (simp <;> rfl) | (simp [*] <;> rfl), by repeat (first | (with_reducible first | exact HB.out | apply zH | apply zF | apply zG | refine zI ?_ GE22.out) | exact HB.out)⟩
 ·rw [if_neg c4] at H
  have c4b0 : decide (t20 < 0) = false := decide_eq_false c4; clear c4; replace H := zAF H; obtain ⟨t21, A80, H⟩ := H; replace H : (if t21 < 0 then (some (-1)) else (some t21)) = some r := H; have A8 := zA A80; clear A80
  by_cases c9 : t21 < 0
  ·rw [if_pos c9] at H
   have c9b0 : decide (t21 < 0) = true := zX c9; clear c9; obtain rfl := yM H; go_enter Try.func29, Try.ntmps29; go_wp2_with (first | ((with_reducible refine gate_dst (N := 2) rfl ?_); refine box_event ?hg (N := 2) ?hd (cs := #[.int .i64 a0_0, .slice A0_1 l0_1.length c0_1, .slice A0_2 l0_2.length c0_2]) (t := 47) ?hr ?_; (case hd => rfl); (case hg => rfl); (case hr => first | (go_simp; done) | (go_simp; rfl)); intro gb22 hg w10 hbox hb; have n0_ := zA (zAD (by (with_reducible repeat first | exact HB.out | apply zH | apply zF | apply zG) <;> exact HB.out) hb); have n1_ := zA (hbox); have n2_ := zA ((by rw [hg]; exact (zAE (by (with_reducible repeat first | exact HB.out | apply zH | apply zF | apply zG) <;> exact HB.out)) : w.heap.size ≤ gb22)); have n3_ := zA ((by rw [hg]; exact (zAE (by (with_reducible repeat first | exact HB.out | apply zH | apply zF | apply zG) <;> exact HB.out)) : w.heap.size ≤ gb22)); clear HB; have HB := n0_; have BK22 := n1_; have GW22 := n2_; have GE22 := n3_; clear n0_ n1_ n2_ n3_; clear hb hbox hg; have hcz11_0 := yL BK22.out 0 (.int .i64 a0_0) rfl; have hcz11_1 := yL BK22.out 1 (.slice A0_1 l0_1.length c0_1) rfl; have hcz11_2 := yL BK22.out 2 (.slice A0_2 l0_2.length c0_2) rfl; have hfz11_0 := zO BK22.out 0; have hfz11_1 := zO BK22.out 1; have hfz11_2 := zO BK22.out 2) | ((with_reducible refine yB (f := 89) rfl ?_); refine goesL_ (some 8) rfl rfl Try.func89 (by kernel_rfl) rfl #[.slice A0_1 l0_1.length c0_1, .int .i64 a1] rfl (by (try simp only [zAA, zAB, zAC]); first | done | rfl | (simp only [zZ, zY]; rfl)) ?_; (with_reducible refine (laws_heldStringS.calls k _ _ l0_1 a1 t20 _ ?side1 ?side2 A3.out).mono ?_); (case side1 => repeat (first | exact (yN HR0_1.out HB.out) | (with_reducible first | refine zT ?_ _ | refine zU ?_ _ | refine zV ?_))); (case side2 => exact HC0_1.out); rintro e w12 ⟨rfl, hb⟩; refine ⟨_, rfl, ?_⟩; have n0_ := zA (yE (g := gb22) (o := .cells #[.int .i64 a0_0, .slice A0_1 l0_1.length c0_1, .slice A0_2 l0_2.length c0_2] 47 (0, 0)) (by (with_reducible repeat (first | refine zL ?_ _ | refine zN ?_ | refine zM ?_ _)); exact BK22.out) hb); have n1_ := zA (zAD (by repeat (first | (with_reducible first | exact HB.out | apply zH | apply zF | apply zG | refine zI ?_ GE22.out) | exact HB.out)) hb); clear BK22; clear HB; have BK22 := n0_; have HB := n1_; clear n0_ n1_; (try clear hb); have hcz13_0 := yL BK22.out 0 (.int .i64 a0_0) rfl; have hcz13_1 := yL BK22.out 1 (.slice A0_1 l0_1.length c0_1) rfl; have hcz13_2 := yL BK22.out 2 (.slice A0_2 l0_2.length c0_2) rfl; have hfz13_0 := zO BK22.out 0; have hfz13_1 := zO BK22.out 1; have hfz13_2 := zO BK22.out 2) | ((with_reducible refine yB (f := 89) rfl ?_); refine goesL_ (some 14) rfl rfl Try.func89 (by kernel_rfl) rfl #[.slice A0_2 l0_2.length c0_2, .int .i64 t20] rfl (by (try simp only [zAA, zAB, zAC]); first | done | rfl | (simp only [zZ, zY]; rfl)) ?_; (with_reducible refine (laws_heldStringS.calls k _ _ l0_2 t20 t21 _ ?side1 ?side2 A8.out).mono ?_); (case side1 => repeat (first | exact (yN HR0_2.out HB.out) | (with_reducible first | refine zT ?_ _ | refine zU ?_ _ | refine zV ?_))); (case side2 => exact HC0_2.out); rintro e w14 ⟨rfl, hb⟩; refine ⟨_, rfl, ?_⟩; have n0_ := zA (yE (g := gb22) (o := .cells #[.int .i64 a0_0, .slice A0_1 l0_1.length c0_1, .slice A0_2 l0_2.length c0_2] 47 (0, 0)) (by (with_reducible repeat (first | refine zL ?_ _ | refine zN ?_ | refine zM ?_ _)); exact BK22.out) hb); have n1_ := zA (zAD (by repeat (first | (with_reducible first | exact HB.out | apply zH | apply zF | apply zG | refine zI ?_ GE22.out) | exact HB.out)) hb); clear BK22; clear HB; have BK22 := n0_; have HB := n1_; clear n0_ n1_; (try clear hb))); go_ret; exact ⟨by first | rfl | (simp <;> rfl) | (simp [*] <;> rfl), by repeat (first | (with_reducible first | exact HB.out | apply zH | apply zF | apply zG | refine zI ?_ GE22.out) | exact HB.out)⟩
  ·rw [if_neg c9] at H
   have c9b0 : decide (t21 < 0) = false := decide_eq_false c9; clear c9; obtain rfl := yM H; go_enter Try.func29, Try.ntmps29; go_wp2_with (first | ((with_reducible refine gate_dst (N := 2) rfl ?_); refine box_event ?hg (N := 2) ?hd (cs := #[.int .i64 a0_0, .slice A0_1 l0_1.length c0_1, .slice A0_2 l0_2.length c0_2]) (t := 47) ?hr ?_; (case hd => rfl); (case hg => rfl); (case hr => first | (go_simp; done) | (go_simp; rfl)); intro gb22 hg w15 hbox hb; have n0_ := zA (zAD (by (with_reducible repeat first | exact HB.out | apply zH | apply zF | apply zG) <;> exact HB.out) hb); have n1_ := zA (hbox); have n2_ := zA ((by rw [hg]; exact (zAE (by (with_reducible repeat first | exact HB.out | apply zH | apply zF | apply zG) <;> exact HB.out)) : w.heap.size ≤ gb22)); have n3_ := zA ((by rw [hg]; exact (zAE (by (with_reducible repeat first | exact HB.out | apply zH | apply zF | apply zG) <;> exact HB.out)) : w.heap.size ≤ gb22)); clear HB; have HB := n0_; have BK22 := n1_; have GW22 := n2_; have GE22 := n3_; clear n0_ n1_ n2_ n3_; clear hb hbox hg; have hcz16_0 := yL BK22.out 0 (.int .i64 a0_0) rfl; have hcz16_1 := yL BK22.out 1 (.slice A0_1 l0_1.length c0_1) rfl; have hcz16_2 := yL BK22.out 2 (.slice A0_2 l0_2.length c0_2) rfl; have hfz16_0 := zO BK22.out 0; have hfz16_1 := zO BK22.out 1; have hfz16_2 := zO BK22.out 2) | ((with_reducible refine yB (f := 89) rfl ?_); refine goesL_ (some 8) rfl rfl Try.func89 (by kernel_rfl) rfl #[.slice A0_1 l0_1.length c0_1, .int .i64 a1] rfl (by (try simp only [zAA, zAB, zAC]); first | done | rfl | (simp only [zZ, zY]; rfl)) ?_; (with_reducible refine (laws_heldStringS.calls k _ _ l0_1 a1 t20 _ ?side1 ?side2 A3.out).mono ?_); (case side1 => repeat (first | exact (yN HR0_1.out HB.out) | (with_reducible first | refine zT ?_ _ | refine zU ?_ _ | refine zV ?_))); (case side2 => exact HC0_1.out); rintro e w17 ⟨rfl, hb⟩; refine ⟨_, rfl, ?_⟩; have n0_ := zA (yE (g := gb22) (o := .cells #[.int .i64 a0_0, .slice A0_1 l0_1.length c0_1, .slice A0_2 l0_2.length c0_2] 47 (0, 0)) (by (with_reducible repeat (first | refine zL ?_ _ | refine zN ?_ | refine zM ?_ _)); exact BK22.out) hb); have n1_ := zA (zAD (by repeat (first | (with_reducible first | exact HB.out | apply zH | apply zF | apply zG | refine zI ?_ GE22.out) | exact HB.out)) hb); clear BK22; clear HB; have BK22 := n0_; have HB := n1_; clear n0_ n1_; (try clear hb); have hcz18_0 := yL BK22.out 0 (.int .i64 a0_0) rfl; have hcz18_1 := yL BK22.out 1 (.slice A0_1 l0_1.length c0_1) rfl; have hcz18_2 := yL BK22.out 2 (.slice A0_2 l0_2.length c0_2) rfl; have hfz18_0 := zO BK22.out 0; have hfz18_1 := zO BK22.out 1; have hfz18_2 := zO BK22.out 2) | ((with_reducible refine yB (f := 89) rfl ?_); refine goesL_ (some 14) rfl rfl Try.func89 (by kernel_rfl) rfl #[.slice A0_2 l0_2.length c0_2, .int .i64 t20] rfl (by (try simp only [zAA, zAB, zAC]); first | done | rfl | (simp only [zZ, zY]; rfl)) ?_; (with_reducible refine (laws_heldStringS.calls k _ _ l0_2 t20 t21 _ ?side1 ?side2 A8.out).mono ?_); (case side1 => repeat (first | exact (yN HR0_2.out HB.out) | (with_reducible first | refine zT ?_ _ | refine zU ?_ _ | refine zV ?_))); (case side2 => exact HC0_2.out); rintro e w19 ⟨rfl, hb⟩; refine ⟨_, rfl, ?_⟩; have n0_ := zA (yE (g := gb22) (o := .cells #[.int .i64 a0_0, .slice A0_1 l0_1.length c0_1, .slice A0_2 l0_2.length c0_2] 47 (0, 0)) (by (with_reducible repeat (first | refine zL ?_ _ | refine zN ?_ | refine zM ?_ _)); exact BK22.out) hb); have n1_ := zA (zAD (by repeat (first | (with_reducible first | exact HB.out | apply zH | apply zF | apply zG | refine zI ?_ GE22.out) | exact HB.out)) hb); clear BK22; clear HB; have BK22 := n0_; have HB := n1_; clear n0_ n1_; (try clear hb))); go_ret; exact ⟨by first | rfl | (simp <;> rfl) | (simp [*] <;> rfl), by repeat (first | (with_reducible first | exact HB.out | apply zH | apply zF | apply zG | refine zI ?_ GE22.out) | exact HB.out)⟩
end Go.Proofs.Ytmfipefpmjcddaa.PA
end
