/- For the law FnExactSealedText: what it needs of the words, of the printed functions and of the plain laws, in few texts (laid by merge.py of this workplace). -/
import Derived.Test.YthhkkhnjkoacnaaDoorMFnExactSealedTextb
import Derived.Laws.BitsLemmas
import Derived.Deep.Slices
import Derived.ChangeArms
import Derived.DataReads
section
namespace Go.Proofs.YthhkkhnjkoacnaaDoor.PA
open Go.RowKit Go.Proofs.YthhkkhnjkoacnaaDoorW.PrintWords Go.Proofs.YthhkkhnjkoacnaaDoorW.PrintLast Go.Proofs.YthhkkhnjkoacnaaDoorW.PrintMore
attribute [local go_sem] max2_int min2_int max_two min_two max_three min_three max_four min_four
set_option linter.unusedVariables false
set_option linter.unusedSimpArgs false
set_option maxHeartbeats 60000000
set_option maxRecDepth 100000
def impl_Mix_feed.l0 : Nat → ByteArray → Int → Int → Int → Int → Int → Option (Int × Int × Int)
 | 0, _, _, _, _, _, _ => none
 | k + 1, x1, x7, x8, x10, x11, x12 => if x8 < x7 then (if 0 ≤ x8 then (if x8 < (x1.size : Int) then (impl_Mix_feed.l0 k x1 x7 (wrap64 (x8 + 1)) (Int.tmod (wrap64 (x10 + (wrap64 (bt x1 x8)))) 65521) (Int.tmod (wrap64 (x11 + (Int.tmod (wrap64 (x10 + (wrap64 (bt x1 x8)))) 65521))) 65521) x12) else (none)) else (none)) else (some (x10, x11, wrap64 (x12 + (x1.size : Int))))
def impl_Mix_feed.f (k : Nat) (a0_0 : Int) (a0_1 : Int) (a0_2 : Int) (a1 : ByteArray) : Option (Int × Int × Int) := impl_Mix_feed.l0 k a1 (a1.size : Int) 0 a0_0 a0_1 a0_2
def impl_Mix_feed.T4 : Bool × List (List Nat × List Nat) := (true, [([], []), ([0], [0]), ([], []), ([], []), ([2, 3], [2, 3]), ([4], [4]), ([1, 5], [1, 5]), ([6], [6]), ([0, 1, 2, 3, 4, 5, 6, 7], []), ([8, 7, 0, 1, 2, 3, 4, 5, 6, 7], [7, 8])])
def impl_Mix_feed.B4 : List Nat := [0, 1, 0, 0, 12, 28, 63, 127, 255, 511]
theorem impl_Mix_feed.tab4 : rtab .any (opsOf Tryd.f101 4) = impl_Mix_feed.T4 := by kernel_rfl
theorem impl_Mix_feed.bits4 : waitsOk impl_Mix_feed.T4.2 impl_Mix_feed.B4 = true := by kernel_rfl
theorem impl_Mix_feed.calls (k : Nat) (a0_0 : Int) (a0_1 : Int) (a0_2 : Int) (a1 : ByteArray) (r1 : Int) (r2 : Int) (r3 : Int) (w : World) (h : impl_Mix_feed.f k a0_0 a0_1 a0_2 a1 = some (r1, r2, r3)) :
  Calls Tryd.prog 101 #[.agg #[.int .i64 a0_0, .int .i64 a0_1, .int .i64 a0_2], .string a1] w fun e w' => e = .returned (.agg #[.int .i64 r1, .int .i64 r2, .int .i64 r3]) ∧ Below w.heap.size w w' := by
 have hu104 := Tryd.underlying104; have HB := zA (Below.refl w.heap.size w); have H : (impl_Mix_feed.l0 k a1 (a1.size : Int) 0 a0_0 a0_1 a0_2) = some (r1, r2, r3) := h; clear h; have H' := zA H; clear H; go_enter Tryd.func101, Tryd.ntmps101; go_wp2_with (first | ((with_reducible refine gate_dst (N := 2) rfl ?_); refine box_event ?hg (N := 2) ?hd (cs := #[.int .i64 a0_0, .int .i64 a0_1, .int .i64 a0_2]) (t := 104) ?hr ?_; (case hd => rfl); (case hg => rfl); (case hr => first | (go_simp; done) | (go_simp; rfl)); intro gb16 hg w3 hbox hb; have n0_ := zA (zAD (by repeat (first | (with_reducible first | exact HB.out | apply zH | apply zF | apply zG) | exact HB.out)) hb); have n1_ := zA (hbox); have n2_ := zA ((by rw [hg]; exact (zAE (by repeat (first | (with_reducible first | exact HB.out | apply zH | apply zF | apply zG) | exact HB.out))) : w.heap.size ≤ gb16)); have n3_ := zA ((by rw [hg]; exact (zAE (by repeat (first | (with_reducible first | exact HB.out | apply zH | apply zF | apply zG) | exact HB.out))) : w.heap.size ≤ gb16)); clear HB; have HB := n0_; have BK16 := n1_; have GW16 := n2_; have GE16 := n3_; clear n0_ n1_ n2_ n3_; clear hb hbox hg) | ((with_reducible refine gate_dst (N := 4) rfl ?_); refine box_event ?hg (N := 4) ?hd (cs := #[.int .i64 0, .int .i64 0, .int .i64 0]) (t := 104) ?hr ?_; (case hd => rfl); (case hg => rfl); (case hr => first | (go_simp; done) | (go_simp; rfl)); intro gb17 hg w4 hbox hb; have n0_ := zA (yE (g := gb16) (o := .cells #[.int .i64 a0_0, .int .i64 a0_1, .int .i64 a0_2] 104 (0, 0)) (by (with_reducible repeat (first | refine zL ?_ _ | refine zN ?_ | refine zM ?_ _)); exact BK16.out) hb); have n1_ := zA (zAD (by repeat (first | (with_reducible first | exact HB.out | apply zH | apply zF | apply zG | refine zI ?_ GE16.out) | exact HB.out)) hb); have n2_ := zA (hbox); have n3_ := zA ((by rw [hg]; exact (zAE (by repeat (first | (with_reducible first | exact HB.out | apply zH | apply zF | apply zG | refine zI ?_ GE16.out) | exact HB.out))) : w.heap.size ≤ gb17)); have n4_ := zA ((by rw [hg]; exact (zAE (by repeat (first | (with_reducible first | exact HB.out | apply zH | apply zF | apply zG | refine zI ?_ GE16.out) | exact HB.out))) : w.heap.size ≤ gb17)); have n5_ := zA ((by rw [hg]; exact zK (blk_lt (g := gb16) (o := .cells #[.int .i64 a0_0, .int .i64 a0_1, .int .i64 a0_2] 104 (0, 0)) (by (with_reducible repeat (first | refine zL ?_ _ | refine zN ?_ | refine zM ?_ _)); exact BK16.out)) : gb16 ≠ gb17)); have n6_ := zA ((by rw [hg]; exact Nat.ne_of_gt (blk_lt (g := gb16) (o := .cells #[.int .i64 a0_0, .int .i64 a0_1, .int .i64 a0_2] 104 (0, 0)) (by (with_reducible repeat (first | refine zL ?_ _ | refine zN ?_ | refine zM ?_ _)); exact BK16.out)) : gb17 ≠ gb16)); clear BK16; clear HB; have BK16 := n0_; have HB := n1_; have BK17 := n2_; have GW17 := n3_; have GE17 := n4_; have NB16_17 := n5_; have NB17_16 := n6_; clear n0_ n1_ n2_ n3_ n4_ n5_ n6_; clear hb hbox hg)); go_loopg [8] k (fun kq v8 w' => ∃ (x8_1 : Int) (x18_1 : Int) (x19_1 : Int), v8 = .int .i64 x8_1 ∧ Aside0 (impl_Mix_feed.l0 kq a1 (a1.size : Int) x8_1 x18_1 x19_1 a0_2 = some (r1, r2, r3)) ∧ Aside0 (kq ≤ k) ∧ Aside0 (w'.heap[gb16]? = some (.cells #[.int .i64 x18_1, .int .i64 x19_1, .int .i64 a0_2] 104 (0, 0))) ∧ Aside0 (w'.heap[gb17]? = some (.cells #[.int .i64 0, .int .i64 0, .int .i64 0] 104 (0, 0))) ∧ Aside0 (Below w.heap.size w w'))
 case atStart => exact ⟨(0), (a0_0), (a0_1), (by first | rfl | (simp; done) | (simp [*]; done) | (simp [bne]; done)), H', ⟨Nat.le_refl _⟩, ⟨by (with_reducible repeat (first | refine zL ?_ _ | refine zN ?_ | refine zM ?_ _)); exact BK16.out⟩, ⟨by (with_reducible repeat (first | refine zL ?_ _ | refine zN ?_ | refine zM ?_ _)); exact BK17.out⟩, ⟨by repeat (first | (with_reducible first | exact HB.out | apply zH | apply zF | apply zG | refine zI ?_ GE16.out | refine zI ?_ GE17.out) | exact HB.out)⟩⟩
 case round =>
  clear H'
  try clear c1
  try clear p2
  obtain ⟨x8_1, x18_1, x19_1, rfl, HA, HK1, BK16, BK17, HB⟩ := hrel
  cases gk with
  | zero => exact absurd HA.out (by simp [impl_Mix_feed.l0])
  | succ k1 =>
   have H := HA.out; clear HA; simp only [impl_Mix_feed.l0] at H
   by_cases c5 : x8_1 < (a1.size : Int)
   ·rw [if_pos c5] at H
    have c5b0 : decide (x8_1 < (a1.size : Int)) = true := zX c5; clear c5
    by_cases c6 : 0 ≤ x8_1
    ·rw [if_pos c6] at H
     have c6b0 : decide (0 ≤ x8_1) = true := zX c6; clear c6
     by_cases c7 : x8_1 < (a1.size : Int)
     ·rw [if_pos c7] at H
      have c7b0 : decide (x8_1 < (a1.size : Int)) = true := zX c7; clear c7; have H' := zA H; clear H
      try go_wp2
      have n0_ := zA (zN BK16.out); have n1_ := zA (zN BK17.out); have n2_ := zA (zG HB.out); clear BK16 BK17 HB; have BK16 := n0_; have BK17 := n1_; have HB := n2_; clear n0_ n1_ n2_; have p8 : 0 ≤ (x8_1 : Int) := zW (by first | (with_reducible assumption) | assumption); have q8 : x8_1 < (a1.size : Int) := zW (by first | (with_reducible assumption) | assumption); have hx8 := bt_at a1 x8_1; replace p8 := eq_true p8; replace q8 := eq_true q8; refine start_ (n := 10) (S := fun w' => w'.cell? ⟨gb16, 0, none⟩ = some (.int .i64 x18_1) ∧ w'.cell? ⟨gb16, 1, none⟩ = some (.int .i64 x19_1) ∧ w'.cell? ⟨gb16, 2, none⟩ = some (.int .i64 a0_2)) (ds := [9]) #[false, false, false, false, false, false, false, false, false, false] (by kernel_rfl) rfl rfl ⟨(zP BK16.out 0).trans rfl, (zP BK16.out 1).trans rfl, (zP BK16.out 2).trans rfl⟩ (fun hHeld => ?_); refine with_tabW impl_Mix_feed.tab4 impl_Mix_feed.bits4 (fun HT_ HW_ => ?_); generalize wr.drew = w9 at BK16 BK17 HB hHeld ⊢; refine pure_ (i := 0) (N := some 11) (v := ?_) (a' := ?_) #[true, false, false, false, false, false, false, false, false, false] rfl rfl (any_of HT_.out (by kernel_rfl)) (fun _ _ _ h => h) (Or.inl ⟨by rfl, ?_⟩) ?_ ?_; rotate_left
      ·intro w'
       go_simp
       with_reducible rfl
      rotate_left
      ·simp only [Act.put, zC, zD, zE, i64_w, i32_w]
       rfl
      refine pure_ (i := 2) (N := some 13) (v := ?_) (a' := ?_) #[true, false, true, false, false, false, false, false, false, false] rfl rfl (any_of HT_.out (by kernel_rfl)) (fun _ _ _ h => h) (Or.inl ⟨by rfl, ?_⟩) ?_ ?_; rotate_left
      ·intro w'
       go_simp
       with_reducible rfl
      rotate_left
      ·simp only [Act.put, zC, zD, zE, i64_w, i32_w]
       rfl
      refine pure_ (i := 3) (N := some 14) (v := ?_) (a' := ?_) #[true, false, true, true, false, false, false, false, false, false] rfl rfl (any_of HT_.out (by kernel_rfl)) (fun _ _ _ h => h) (Or.inl ⟨by rfl, ?_⟩) ?_ ?_; rotate_left
      ·intro w'
       go_simp
       with_reducible rfl
      rotate_left
      ·simp only [Act.put, zC, zD, zE, i64_w, i32_w]
       rfl
      refine take_ (i := 1) (N := some 12) (v := ?_) (a' := ?_) #[true, true, true, true, false, false, false, false, false, false] rfl rfl (take_ofW HT_.out HW_.out (by kernel_rfl)) (fun _ _ _ h => h) (Or.inl ⟨by rfl, ?_⟩) hHeld ?_ ?_; rotate_left
      ·rintro w' ⟨s0, s1, s2⟩
       go_simp
       with_reducible rfl
      rotate_left
      ·simp only [Act.put, zC, zD, zE, i64_w, i32_w]
       rfl
      refine take_ (i := 4) (N := some 15) (v := ?_) (a' := ?_) #[true, true, true, true, true, false, false, false, false, false] rfl rfl (take_ofW HT_.out HW_.out (by kernel_rfl)) (fun _ _ _ h => h) (Or.inl ⟨by rfl, ?_⟩) hHeld ?_ ?_; rotate_left
      ·rintro w' ⟨s0, s1, s2⟩
       go_simp
       with_reducible rfl
      rotate_left
      ·simp only [Act.put, zC, zD, zE, i64_w, i32_w]
       rfl
      refine pure_ (i := 5) (N := some 16) (v := ?_) (a' := ?_) #[true, true, true, true, true, true, false, false, false, false] rfl rfl (any_of HT_.out (by kernel_rfl)) (fun _ _ _ h => h) (Or.inl ⟨by rfl, ?_⟩) ?_ ?_; rotate_left
      ·intro w'
       go_simp
       with_reducible rfl
      rotate_left
      ·simp only [Act.put, zC, zD, zE, i64_w, i32_w]
       rfl
      refine pure_ (i := 6) (N := some 17) (v := ?_) (a' := ?_) #[true, true, true, true, true, true, true, false, false, false] rfl rfl (any_of HT_.out (by kernel_rfl)) (fun _ _ _ h => h) (Or.inl ⟨by rfl, ?_⟩) ?_ ?_; rotate_left
      ·intro w'
       go_simp
       with_reducible rfl
      rotate_left
      ·simp only [Act.put, zC, zD, zE, i64_w, i32_w]
       rfl
      refine pure_ (i := 7) (N := some 18) (v := ?_) (a' := ?_) #[true, true, true, true, true, true, true, true, false, false] rfl rfl (any_of HT_.out (by kernel_rfl)) (fun _ _ _ h => h) (Or.inl ⟨by rfl, ?_⟩) ?_ ?_; rotate_left
      ·intro w'
       go_simp
       with_reducible rfl
      rotate_left
      ·simp only [Act.put, zC, zD, zE, i64_w, i32_w]
       rfl
      refine pure_ (i := 8) (N := some 19) (v := ?_) (a' := ?_) #[true, true, true, true, true, true, true, true, true, false] rfl rfl (any_of HT_.out (by kernel_rfl)) (fun _ _ _ h => h) (Or.inl ⟨by rfl, ?_⟩) ?_ ?_; rotate_left
      ·intro w'
       go_simp
       with_reducible rfl
      rotate_left
      ·simp only [Act.put, zC, zD, zE, i64_w, i32_w]
       rfl
      refine last_ (i := 9) (N := none) #[true, true, true, true, true, true, true, true, true, true] rfl rfl (one_of HT_.out (by kernel_rfl)) (by decide) (fun K hK => ?_); have hs10 : w9.cell? ⟨gb16, 0, none⟩ = some (.int .i64 x18_1) := (zP BK16.out 0).trans rfl; have hfs10 := zO BK16.out 0; have hns10_1 := NB17_16.out; have hms10_1 := NB16_17.out; refine skip_ (w1 := ?_) (by rfl) rfl ?_ ?_; rotate_left
      ·go_simp
       rfl
      refine hK.out _ _ ?_; clear hK K; refine done_ (done_of HT_.out (by kernel_rfl)) ?_; have hnb11 := NB16_17.out; have hnc11 := NB17_16.out; have hcz12_0 : w9.cell? ⟨gb16, 0, none⟩ = some (.int .i64 x18_1) := (zP BK16.out 0).trans rfl; have hcz12_1 : w9.cell? ⟨gb16, 1, none⟩ = some (.int .i64 x19_1) := (zP BK16.out 1).trans rfl; have hcz12_2 : w9.cell? ⟨gb16, 2, none⟩ = some (.int .i64 a0_2) := (zP BK16.out 2).trans rfl; have hfz12_0 := zO BK16.out 0; have hfz12_1 := zO BK16.out 1; have hfz12_2 := zO BK16.out 2
      try go_wp2
      go_roundg k1
      case measure => have := HK1.out; omega
      case rel => exact ⟨(wrap64 (x8_1 + 1)), (Int.tmod (wrap64 (x18_1 + (wrap64 (bt a1 x8_1)))) 65521), (Int.tmod (wrap64 (x19_1 + (Int.tmod (wrap64 (x18_1 + (wrap64 (bt a1 x8_1)))) 65521))) 65521), (by first | rfl | (simp; done) | (simp [*]; done) | (simp [bne]; done)), H', ⟨by have := HK1.out; omega⟩, ⟨by (with_reducible repeat (first | refine zL ?_ _ | refine zN ?_ | refine zM ?_ _)); refine blk_put (cs := #[.int .i64 (Int.tmod (wrap64 (x18_1 + (wrap64 (bt a1 x8_1)))) 65521), .int .i64 x19_1, .int .i64 a0_2]) ?_ 1 _ rfl; (with_reducible repeat (first | refine zL ?_ _ | refine zN ?_ | refine zM ?_ _)); refine blk_put (cs := #[.int .i64 x18_1, .int .i64 x19_1, .int .i64 a0_2]) ?_ 0 _ rfl; (with_reducible repeat (first | refine zL ?_ _ | refine zN ?_ | refine zM ?_ _)); exact BK16.out⟩, ⟨by (with_reducible repeat (first | refine zL ?_ _ | refine zN ?_ | refine zM ?_ _)); refine blk_far ?_ NB17_16.out _; (with_reducible repeat (first | refine zL ?_ _ | refine zN ?_ | refine zM ?_ _)); refine blk_far ?_ NB17_16.out _; (with_reducible repeat (first | refine zL ?_ _ | refine zN ?_ | refine zM ?_ _)); exact BK17.out⟩, ⟨by repeat (first | (with_reducible first | exact HB.out | apply zH | apply zF | apply zG | refine zI ?_ GE16.out | refine zI ?_ GE17.out) | exact HB.out)⟩⟩
     ·rw [if_neg c7] at H
      exact absurd H (by simp)
    ·rw [if_neg c6] at H
     exact absurd H (by simp)
   ·rw [if_neg c5] at H
    have c5b0 : decide (x8_1 < (a1.size : Int)) = false := decide_eq_false c5; clear c5; simp only [Option.some.injEq, Prod.mk.injEq] at H; obtain ⟨rfl, rfl, rfl⟩ := H; have hnb13 := NB16_17.out; have hnc13 := NB17_16.out; have hcz14_0 : wr.cell? ⟨gb16, 0, none⟩ = some (.int .i64 x18_1) := (zP BK16.out 0).trans rfl; have hcz14_1 : wr.cell? ⟨gb16, 1, none⟩ = some (.int .i64 x19_1) := (zP BK16.out 1).trans rfl; have hcz14_2 : wr.cell? ⟨gb16, 2, none⟩ = some (.int .i64 a0_2) := (zP BK16.out 2).trans rfl; have hfz14_0 := zO BK16.out 0; have hfz14_1 := zO BK16.out 1; have hfz14_2 := zO BK16.out 2; have hcz15_0 : wr.cell? ⟨gb17, 0, none⟩ = some (.int .i64 0) := (zP BK17.out 0).trans rfl; have hcz15_1 : wr.cell? ⟨gb17, 1, none⟩ = some (.int .i64 0) := (zP BK17.out 1).trans rfl; have hcz15_2 : wr.cell? ⟨gb17, 2, none⟩ = some (.int .i64 0) := (zP BK17.out 2).trans rfl; have hfz15_0 := zO BK17.out 0; have hfz15_1 := zO BK17.out 1; have hfz15_2 := zO BK17.out 2; go_wp2; refine bodyPost_ret (results_cell_row rfl _ _ gb17 104 #[.int .i64 x18_1, .int .i64 x19_1, .int .i64 (wrap64 (a0_2 + (a1.size : Int)))] (0, 0) _ rfl (by (with_reducible repeat (first | refine zL ?_ _ | refine zN ?_ | refine zM ?_ _)); refine blk_put (cs := #[.int .i64 x18_1, .int .i64 x19_1, .int .i64 0]) ?_ 2 _ rfl; (with_reducible repeat (first | refine zL ?_ _ | refine zN ?_ | refine zM ?_ _)); refine blk_put (cs := #[.int .i64 x18_1, .int .i64 0, .int .i64 0]) ?_ 1 _ rfl; (with_reducible repeat (first | refine zL ?_ _ | refine zN ?_ | refine zM ?_ _)); refine blk_put (cs := #[.int .i64 0, .int .i64 0, .int .i64 0]) ?_ 0 _ rfl; (with_reducible repeat (first | refine zL ?_ _ | refine zN ?_ | refine zM ?_ _)); refine blk_far ?_ NB17_16.out _; (with_reducible repeat (first | refine zL ?_ _ | refine zN ?_ | refine zM ?_ _)); exact BK17.out) Tryd.underlying104 rfl (by kernel_rfl)) rfl ?_; exact ⟨by first | rfl | (simp <;> rfl) | (simp [*] <;> rfl), by repeat (first | (with_reducible first | exact HB.out | apply zH | apply zF | apply zG | refine zI ?_ GE16.out | refine zI ?_ GE17.out) | exact HB.out)⟩
def impl_Mix_end.f (a0_0 : Int) (a0_1 : Int) (a0_2 : Int) : Option (ByteArray) := some (strOfNums (([(wrap64 (Int.tdiv a0_1 256)) % 256, (Int.tmod a0_1 256) % 256, (wrap64 (Int.tdiv a0_0 256)) % 256, (Int.tmod a0_0 256) % 256] : List Int)))
theorem impl_Mix_end.calls (a0_0 : Int) (a0_1 : Int) (a0_2 : Int) (r : ByteArray) (w : World) (h : impl_Mix_end.f a0_0 a0_1 a0_2 = some r) :
  Calls Tryd.prog 102 #[.agg #[.int .i64 a0_0, .int .i64 a0_1, .int .i64 a0_2]] w fun e w' => e = .returned (.string r) ∧ Below w.heap.size w w' := by
 have hu104 := Tryd.underlying104; have HB := zA (Below.refl w.heap.size w); have H : (some (strOfNums (([(wrap64 (Int.tdiv a0_1 256)) % 256, (Int.tmod a0_1 256) % 256, (wrap64 (Int.tdiv a0_0 256)) % 256, (Int.tmod a0_0 256) % 256] : List Int)))) = some r := h; clear h; obtain ⟨y10, hy10⟩ : ∃ y_ : List Int, y_ = (([(wrap64 (Int.tdiv a0_1 256)) % 256, (Int.tmod a0_1 256) % 256, (wrap64 (Int.tdiv a0_0 256)) % 256, (Int.tmod a0_0 256) % 256] : List Int)) := ⟨_, rfl⟩; replace H : (some (strOfNums y10)) = some r := by first | (rw [hy10]; with_reducible exact H) | (have H2_ := (Option.bind_some _ _).symm.trans H; rw [hy10]; with_reducible exact H2_) | (have H2_ := (Option.bind_some _ _).symm.trans H; with_reducible exact H2_) | with_reducible exact H | (rw [hy10]; exact H) | exact H
 have Ny10 := zA hy10; clear hy10; obtain rfl := Option.some.inj H; go_enter Tryd.func102, Tryd.ntmps102; go_wp2_with (first | ((with_reducible refine gate_dst (N := 1) rfl ?_); refine box_event ?hg (N := 1) ?hd (cs := #[.int .i64 a0_0, .int .i64 a0_1, .int .i64 a0_2]) (t := 104) ?hr ?_; (case hd => rfl); (case hg => rfl); (case hr => first | (go_simp; done) | (go_simp; rfl)); intro gb11 hg w2 hbox hb; have n0_ := zA (zAD (by repeat (first | (with_reducible first | exact HB.out | apply zH | apply zF | apply zG) | exact HB.out)) hb); have n1_ := zA (hbox); have n2_ := zA ((by rw [hg]; exact (zAE (by repeat (first | (with_reducible first | exact HB.out | apply zH | apply zF | apply zG) | exact HB.out))) : w.heap.size ≤ gb11)); have n3_ := zA ((by rw [hg]; exact (zAE (by repeat (first | (with_reducible first | exact HB.out | apply zH | apply zF | apply zG) | exact HB.out))) : w.heap.size ≤ gb11)); clear HB; have HB := n0_; have BK11 := n1_; have GW11 := n2_; have GE11 := n3_; clear n0_ n1_ n2_ n3_; clear hb hbox hg; have hcz3_0 : w2.cell? ⟨gb11, 0, none⟩ = some (.int .i64 a0_0) := (zP BK11.out 0).trans rfl; have hcz3_1 : w2.cell? ⟨gb11, 1, none⟩ = some (.int .i64 a0_1) := (zP BK11.out 1).trans rfl; have hcz3_2 : w2.cell? ⟨gb11, 2, none⟩ = some (.int .i64 a0_2) := (zP BK11.out 2).trans rfl; have hfz3_0 := zO BK11.out 0; have hfz3_1 := zO BK11.out 1; have hfz3_2 := zO BK11.out 2) | ((with_reducible refine gate_dst (N := 19) rfl ?_); refine Kd.R_lit (Kd.int .u8) _ 5 ?hg (N := 19) ?hd (xs := ([(wrap64 (Int.tdiv a0_1 256)) % 256, (Int.tmod a0_1 256) % 256, (wrap64 (Int.tdiv a0_0 256)) % 256, (Int.tmod a0_0 256) % 256] : List Int)) (inner := [.int .u8 ((wrap64 (Int.tdiv a0_1 256)) % 256), .int .u8 ((Int.tmod a0_1 256) % 256), .int .u8 ((wrap64 (Int.tdiv a0_0 256)) % 256), .int .u8 ((Int.tmod a0_0 256) % 256)]) (ok := fun _ => True) (okp := fun _ => True) ?hr ?hp (fun _ hk => hk) trivial (Below.refl _ _) (Nat.le_refl _) (by simp) ?_; (case hd => rfl); (case hg => rfl); (case hr => first | (go_simp; done) | (go_simp; rfl)); (case hp => exact (Reps.one (show Kd.M (Kd.int .u8) _ _ _ ((wrap64 (Int.tdiv a0_1 256)) % 256) [.int .u8 ((wrap64 (Int.tdiv a0_1 256)) % 256)] from rfl) (Reps.one (show Kd.M (Kd.int .u8) _ _ _ ((Int.tmod a0_1 256) % 256) [.int .u8 ((Int.tmod a0_1 256) % 256)] from rfl) (Reps.one (show Kd.M (Kd.int .u8) _ _ _ ((wrap64 (Int.tdiv a0_0 256)) % 256) [.int .u8 ((wrap64 (Int.tdiv a0_0 256)) % 256)] from rfl) (Reps.one (show Kd.M (Kd.int .u8) _ _ _ ((Int.tmod a0_0 256) % 256) [.int .u8 ((Int.tmod a0_0 256) % 256)] from rfl) (Reps.none _ _)))))); intro v12 w4 ho5 hb hg_ hnew_; clear hg_ hnew_; (first | rw [← Ny10.out] at ho5 | (simp only [Int.reduceToNat] at ho5; rw [← Ny10.out] at ho5)); have n0_ := zA (Kd.R_lower ho5 (zAE (by repeat (first | (with_reducible first | exact HB.out | apply zH | apply zF | apply zG | refine zI ?_ GE11.out) | exact HB.out)))); have n1_ := zA (yE (g := gb11) (o := .cells #[.int .i64 a0_0, .int .i64 a0_1, .int .i64 a0_2] 104 (0, 0)) (by (with_reducible repeat (first | refine zL ?_ _ | refine zN ?_ | refine zM ?_ _)); exact BK11.out) hb); have n2_ := zA (zAD (by repeat (first | (with_reducible first | exact HB.out | apply zH | apply zF | apply zG | refine zI ?_ GE11.out) | exact HB.out)) hb); clear BK11; clear HB; have HO13 := n0_; have BK11 := n1_; have HB := n2_; clear n0_ n1_ n2_; clear hb ho5; have hcv6 := own_string (P := Tryd.prog) Tryd.underlying48 Tryd.underlying5 Tryd.underlying9 (Kd.own_of_R HO13.out))); go_ret; exact ⟨by first | rfl | (simp <;> rfl) | (simp [*] <;> rfl), by repeat (first | (with_reducible first | exact HB.out | apply zH | apply zF | apply zG | refine zI ?_ GE11.out) | exact HB.out)⟩
def impl_digest.f (k : Nat) (a0 : Int) (a1 : ByteArray) : Option (ByteArray) := (impl_newMix.f a0).bind fun bt10 => ((impl_Mix_feed.f k bt10.1 bt10.2.1 bt10.2.2 a1).bind fun bt11 => ((impl_Mix_end.f bt11.1 bt11.2.1 bt11.2.2).bind fun t12 => (some t12)))
theorem impl_digest.calls (k : Nat) (a0 : Int) (a1 : ByteArray) (r : ByteArray) (w : World) (h : impl_digest.f k a0 a1 = some r) :
  Calls Tryd.prog 87 #[.int .u8 a0, .string a1] w fun e w' => e = .returned (.string r) ∧ Below w.heap.size w w' := by
 have HB := zA (Below.refl w.heap.size w); have H : ((impl_newMix.f a0).bind fun bt10 => ((impl_Mix_feed.f k bt10.1 bt10.2.1 bt10.2.2 a1).bind fun bt11 => ((impl_Mix_end.f bt11.1 bt11.2.1 bt11.2.2).bind fun t12 => (some t12)))) = some r := h; clear h; replace H := zAF H; obtain ⟨⟨t10, t13, t14⟩, A30, H⟩ := H; replace H : ((impl_Mix_feed.f k t10 t13 t14 a1).bind fun bt11 => ((impl_Mix_end.f bt11.1 bt11.2.1 bt11.2.2).bind fun t12 => (some t12))) = some r := H; have A3 := zA A30; clear A30; replace H := zAF H; obtain ⟨⟨t11, t15, t16⟩, A40, H⟩ := H; replace H : ((impl_Mix_end.f t11 t15 t16).bind fun t12 => (some t12)) = some r := H; have A4 := zA A40; clear A40; replace H := zAF H; obtain ⟨t12, A50, H⟩ := H; replace H : (some t12) = some r := H; have A5 := zA A50; clear A50; obtain rfl := Option.some.inj H; go_enter Tryd.func87, Tryd.ntmps87; go_wp2_with (first | ((with_reducible refine yB (f := 100) rfl ?_); refine goesL_ (some 6) rfl rfl Tryd.func100 (by kernel_rfl) rfl #[.int .u8 a0] rfl (by (try simp only [zAA, zAB, zAC]); first | done | rfl) ?_; (with_reducible refine (impl_newMix.calls a0 t10 t13 t14 _ A3.out).mono ?_); rintro e w6 ⟨rfl, hb⟩; refine ⟨_, rfl, ?_⟩; have n0_ := zA (zAD (by repeat (first | (with_reducible first | exact HB.out | apply zH | apply zF | apply zG) | exact HB.out)) hb); clear HB; have HB := n0_; clear n0_; (try clear hb)) | ((with_reducible refine yB (f := 101) rfl ?_); refine goesL_ (some 8) rfl rfl Tryd.func101 (by kernel_rfl) rfl #[.agg #[.int .i64 t10, .int .i64 t13, .int .i64 t14], .string a1] rfl (by (try simp only [zAA, zAB, zAC]); first | done | rfl) ?_; (with_reducible refine (impl_Mix_feed.calls k t10 t13 t14 a1 t11 t15 t16 _ A4.out).mono ?_); rintro e w7 ⟨rfl, hb⟩; refine ⟨_, rfl, ?_⟩; have n0_ := zA (zAD (by repeat (first | (with_reducible first | exact HB.out | apply zH | apply zF | apply zG) | exact HB.out)) hb); clear HB; have HB := n0_; clear n0_; (try clear hb)) | ((with_reducible refine yB (f := 102) rfl ?_); refine goesL_ (some 9) rfl rfl Tryd.func102 (by kernel_rfl) rfl #[.agg #[.int .i64 t11, .int .i64 t15, .int .i64 t16]] rfl (by (try simp only [zAA, zAB, zAC]); first | done | rfl) ?_; (with_reducible refine (impl_Mix_end.calls t11 t15 t16 t12 _ A5.out).mono ?_); rintro e w8 ⟨rfl, hb⟩; refine ⟨_, rfl, ?_⟩; have n0_ := zA (zAD (by repeat (first | (with_reducible first | exact HB.out | apply zH | apply zF | apply zG) | exact HB.out)) hb); clear HB; have HB := n0_; clear n0_; (try clear hb))); go_ret; exact ⟨by first | rfl | (simp <;> rfl) | (simp [*] <;> rfl), by repeat (first | (with_reducible first | exact HB.out | apply zH | apply zF | apply zG) | exact HB.out)⟩
def impl_Block_bytes.l0 : Nat → ByteArray → List ByteArray → Int → Int → Option (ByteArray)
 | 0, _, _, _, _ => none
 | k + 1, x3, x12, x13, x14 => if x14 < x13 then (if 0 ≤ x14 then (if x14 < (x12.length : Int) then ((impl_oneByte.f ((rdOf ByteArray.empty x12 x14).size : Int)).bind fun t10 => (if t10.size + (rdOf ByteArray.empty x12 x14).size ≤ 9223372036854775807 then (if x3.size + (t10 ++ (rdOf ByteArray.empty x12 x14)).size ≤ 9223372036854775807 then (impl_Block_bytes.l0 k (x3 ++ (t10 ++ (rdOf ByteArray.empty x12 x14))) x12 x13 (wrap64 (x14 + 1))) else (none)) else (none))) else (none)) else (none)) else (some x3)
def impl_Block_bytes.f (k : Nat) (a0_0 : ByteArray) (a0_1 : ByteArray) (l0_2 : List ByteArray) : Option (ByteArray) := if a0_0.size + a0_1.size ≤ 9223372036854775807 then (impl_Block_bytes.l0 k (a0_0 ++ a0_1) l0_2 (l0_2.length : Int) 0) else (none)
theorem impl_Block_bytes.calls (k : Nat) (a0_0 : ByteArray) (a0_1 : ByteArray) (A0_2 : Option Addr) (c0_2 : Nat) (l0_2 : List ByteArray) (r : ByteArray) (w : World) (hr0_2 : Kd.C Kd.string w A0_2 l0_2.length l0_2) (hc0_2 : l0_2.length ≤ c0_2) (h : impl_Block_bytes.f k a0_0 a0_1 l0_2 = some r) :
  Calls Tryd.prog 88 #[.agg #[.string a0_0, .string a0_1, .slice A0_2 l0_2.length c0_2]] w fun e w' => e = .returned (.string r) ∧ Below w.heap.size w w' := by
 have hu35 := Tryd.underlying35; have HR0_2 := zA hr0_2; have HC0_2 := zA hc0_2; clear hr0_2 hc0_2; have HB := zA (Below.refl w.heap.size w); have H : (if a0_0.size + a0_1.size ≤ 9223372036854775807 then (impl_Block_bytes.l0 k (a0_0 ++ a0_1) l0_2 (l0_2.length : Int) 0) else (none)) = some r := h; clear h
 by_cases c2 : a0_0.size + a0_1.size ≤ 9223372036854775807
 ·rw [if_pos c2] at H
  have c2b0 := eq_true c2; have c2b1 : decide (a0_0.size + a0_1.size ≤ 9223372036854775807) = true := zX c2
  try have c2b2 : (9223372036854775807 < a0_0.size + a0_1.size) = False := eq_false (Nat.not_lt.2 c2)
  have H' := zA H; clear H; go_enter Tryd.func88, Tryd.ntmps88; go_wp2_with (first | ((with_reducible refine gate_dst (N := 1) rfl ?_); refine box_event ?hg (N := 1) ?hd (cs := #[.string a0_0, .string a0_1, .slice A0_2 l0_2.length c0_2]) (t := 35) ?hr ?_; (case hd => rfl); (case hg => rfl); (case hr => first | (go_simp; done) | (go_simp; rfl)); intro gb12 hg w3 hbox hb; have n0_ := zA (zAD (by repeat (first | (with_reducible first | exact HB.out | apply zH | apply zF | apply zG) | exact HB.out)) hb); have n1_ := zA (hbox); have n2_ := zA ((by rw [hg]; exact (zAE (by repeat (first | (with_reducible first | exact HB.out | apply zH | apply zF | apply zG) | exact HB.out))) : w.heap.size ≤ gb12)); have n3_ := zA ((by rw [hg]; exact (zAE (by repeat (first | (with_reducible first | exact HB.out | apply zH | apply zF | apply zG) | exact HB.out))) : w.heap.size ≤ gb12)); clear HB; have HB := n0_; have BK12 := n1_; have GW12 := n2_; have GE12 := n3_; clear n0_ n1_ n2_ n3_; clear hb hbox hg; have hcz4_0 : w3.cell? ⟨gb12, 0, none⟩ = some (.string a0_0) := (zP BK12.out 0).trans rfl; have hcz4_1 : w3.cell? ⟨gb12, 1, none⟩ = some (.string a0_1) := (zP BK12.out 1).trans rfl; have hcz4_2 : w3.cell? ⟨gb12, 2, none⟩ = some (.slice A0_2 l0_2.length c0_2) := (zP BK12.out 2).trans rfl; have hfz4_0 := zO BK12.out 0; have hfz4_1 := zO BK12.out 1; have hfz4_2 := zO BK12.out 2)); go_loopg [3, 14] k (fun kq v3 v14 w' => ∃ (x3_1 : ByteArray) (x14_1 : Int), v3 = .string x3_1 ∧ v14 = .int .i64 x14_1 ∧ Aside0 (impl_Block_bytes.l0 kq x3_1 l0_2 (l0_2.length : Int) x14_1 = some r) ∧ Aside0 (kq ≤ k) ∧ Aside0 (w'.heap[gb12]? = some (.cells #[.string a0_0, .string a0_1, (.slice A0_2 l0_2.length c0_2)] 35 (0, 0))) ∧ Aside0 (Below w.heap.size w w'))
  case atStart => exact ⟨(a0_0 ++ a0_1), (0), (by first | rfl | (simp; done) | (simp [*]; done) | (simp [bne]; done)), (by first | rfl | (simp; done) | (simp [*]; done) | (simp [bne]; done)), H', ⟨Nat.le_refl _⟩, ⟨by (with_reducible repeat (first | refine zL ?_ _ | refine zN ?_ | refine zM ?_ _)); exact BK12.out⟩, ⟨by repeat (first | (with_reducible first | exact HB.out | apply zH | apply zF | apply zG | refine zI ?_ GE12.out) | exact HB.out)⟩⟩
  case round =>
   clear H'
   try clear c2
   try clear c2b0
   try clear c2b1
   try clear c2b2
   try clear p2
   try clear hcz4_0
   try clear hcz4_1
   try clear hcz4_2
   try clear hfz4_0
   try clear hfz4_1
   try clear hfz4_2
   obtain ⟨x3_1, x14_1, rfl, rfl, HA, HK1, BK12, HB⟩ := hrel
   cases gk with
   | zero => exact absurd HA.out (by simp [impl_Block_bytes.l0])
   | succ k1 =>
    have H := HA.out; clear HA; simp only [impl_Block_bytes.l0] at H
    by_cases c5 : x14_1 < (l0_2.length : Int)
    ·rw [if_pos c5] at H
     have c5b0 : decide (x14_1 < (l0_2.length : Int)) = true := zX c5; clear c5
     by_cases c6 : 0 ≤ x14_1
     ·rw [if_pos c6] at H
      have c6b0 : decide (0 ≤ x14_1) = true := zX c6; clear c6
      by_cases c7 : x14_1 < (l0_2.length : Int)
      ·rw [if_pos c7] at H
       have c7b0 : decide (x14_1 < (l0_2.length : Int)) = true := zX c7; clear c7; replace H := zAF H; obtain ⟨t13, A80, H⟩ := H; replace H : (if t13.size + (rdOf ByteArray.empty l0_2 x14_1).size ≤ 9223372036854775807 then (if x3_1.size + (t13 ++ (rdOf ByteArray.empty l0_2 x14_1)).size ≤ 9223372036854775807 then (impl_Block_bytes.l0 k1 (x3_1 ++ (t13 ++ (rdOf ByteArray.empty l0_2 x14_1))) l0_2 (l0_2.length : Int) (wrap64 (x14_1 + 1))) else (none)) else (none)) = some r := H; have A8 := zA A80; clear A80
       by_cases c9 : t13.size + (rdOf ByteArray.empty l0_2 x14_1).size ≤ 9223372036854775807
       ·rw [if_pos c9] at H
        have c9b0 := eq_true c9; have c9b1 : decide (t13.size + (rdOf ByteArray.empty l0_2 x14_1).size ≤ 9223372036854775807) = true := zX c9
        try have c9b2 : (9223372036854775807 < t13.size + (rdOf ByteArray.empty l0_2 x14_1).size) = False := eq_false (Nat.not_lt.2 c9)
        by_cases c10 : x3_1.size + (t13 ++ (rdOf ByteArray.empty l0_2 x14_1)).size ≤ 9223372036854775807
        ·rw [if_pos c10] at H
         have c10b0 := eq_true c10; have c10b1 : decide (x3_1.size + (t13 ++ (rdOf ByteArray.empty l0_2 x14_1)).size ≤ 9223372036854775807) = true := zX c10; (try (have c10b3 := (show x3_1.size + (t13 ++ (rdOf ByteArray.empty l0_2 x14_1)).size ≤ 9223372036854775807 from c10); simp only [ByteArray.size_append, ByteArray.size_extract, Nat.min_self, Nat.sub_zero] at c10b3; have c10b4 := eq_true c10b3; have c10b5 : decide (_) = true := zX c10b3; have c10b6 := eq_false (Nat.not_lt.2 c10b3); clear c10b3))
         try have c10b2 : (9223372036854775807 < x3_1.size + (t13 ++ (rdOf ByteArray.empty l0_2 x14_1)).size) = False := eq_false (Nat.not_lt.2 c10)
         have H' := zA H; clear H; have p15 : 0 ≤ (x14_1 : Int) := zW (by first | (with_reducible assumption) | assumption); have q15 : x14_1 < (l0_2.length : Int) := zW (by first | (with_reducible assumption) | assumption); obtain ⟨ad15, e15, hx15_0⟩ := Kd.at_string HR0_2.out x14_1 p15 q15
         cases e15
         replace hx15_0 := (HB.out.cell (zB w _ hx15_0)).trans hx15_0; replace p15 := eq_true p15; replace q15 := eq_true q15; go_wp2_with (first | ((with_reducible refine yB (f := 59) rfl ?_); refine goesL_ (some 21) rfl rfl Tryd.func59 (by kernel_rfl) rfl #[.int .i64 ((rdOf ByteArray.empty l0_2 x14_1).size : Int)] rfl (by (try simp only [zAA, zAB, zAC]); first | done | rfl) ?_; (with_reducible refine (impl_oneByte.calls ((rdOf ByteArray.empty l0_2 x14_1).size : Int) t13 _ A8.out).mono ?_); rintro e w11 ⟨rfl, hb⟩; refine ⟨_, rfl, ?_⟩; have n0_ := zA (yE (g := gb12) (o := .cells #[.string a0_0, .string a0_1, .slice (some ad15) l0_2.length c0_2] 35 (0, 0)) (by (with_reducible repeat (first | refine zL ?_ _ | refine zN ?_ | refine zM ?_ _)); exact BK12.out) hb); have n1_ := zA (zAD (by repeat (first | (with_reducible first | exact HB.out | apply zH | apply zF | apply zG | refine zI ?_ GE12.out) | exact HB.out)) hb); clear BK12; clear HB; have BK12 := n0_; have HB := n1_; clear n0_ n1_; (try clear hb))); go_roundg k1
         case measure => have := HK1.out; omega
         case rel => exact ⟨(x3_1 ++ (t13 ++ (rdOf ByteArray.empty l0_2 x14_1))), (wrap64 (x14_1 + 1)), (by first | rfl | (simp; done) | (simp [*]; done) | (simp [bne]; done)), (by first | rfl | (simp; done) | (simp [*]; done) | (simp [bne]; done)), H', ⟨by have := HK1.out; omega⟩, ⟨by (with_reducible repeat (first | refine zL ?_ _ | refine zN ?_ | refine zM ?_ _)); exact BK12.out⟩, ⟨by repeat (first | (with_reducible first | exact HB.out | apply zH | apply zF | apply zG | refine zI ?_ GE12.out) | exact HB.out)⟩⟩
        ·rw [if_neg c10] at H
         exact absurd H (by simp)
       ·rw [if_neg c9] at H
        exact absurd H (by simp)
      ·rw [if_neg c7] at H
       exact absurd H (by simp)
     ·rw [if_neg c6] at H
      exact absurd H (by simp)
    ·rw [if_neg c5] at H
     have c5b0 : decide (x14_1 < (l0_2.length : Int)) = false := decide_eq_false c5; clear c5; obtain rfl := Option.some.inj H; go_wp2; go_ret; exact ⟨by first | rfl | (simp <;> rfl) | (simp [*] <;> rfl), by repeat (first | (with_reducible first | exact HB.out | apply zH | apply zF | apply zG | refine zI ?_ GE12.out) | exact HB.out)⟩
 ·rw [if_neg c2] at H
  exact absurd H (by simp)
def impl_Block_digest.f (k : Nat) (a0_0 : ByteArray) (a0_1 : ByteArray) (l0_2 : List ByteArray) : Option (ByteArray) := (impl_Block_bytes.f k a0_0 a0_1 l0_2).bind fun t10 => ((impl_digest.f k 104 t10).bind fun t11 => (some t11))
theorem impl_Block_digest.calls (k : Nat) (a0_0 : ByteArray) (a0_1 : ByteArray) (A0_2 : Option Addr) (c0_2 : Nat) (l0_2 : List ByteArray) (r : ByteArray) (w : World) (hr0_2 : Kd.C Kd.string w A0_2 l0_2.length l0_2) (hc0_2 : l0_2.length ≤ c0_2) (h : impl_Block_digest.f k a0_0 a0_1 l0_2 = some r) :
  Calls Tryd.prog 67 #[.agg #[.string a0_0, .string a0_1, .slice A0_2 l0_2.length c0_2]] w fun e w' => e = .returned (.string r) ∧ Below w.heap.size w w' := by
 have hu35 := Tryd.underlying35; have HR0_2 := zA hr0_2; have HC0_2 := zA hc0_2; clear hr0_2 hc0_2; have HB := zA (Below.refl w.heap.size w); have H : ((impl_Block_bytes.f k a0_0 a0_1 l0_2).bind fun t10 => ((impl_digest.f k 104 t10).bind fun t11 => (some t11))) = some r := h; clear h; replace H := zAF H; obtain ⟨t10, A20, H⟩ := H; replace H : ((impl_digest.f k 104 t10).bind fun t11 => (some t11)) = some r := H; have A2 := zA A20; clear A20; replace H := zAF H; obtain ⟨t11, A30, H⟩ := H; replace H : (some t11) = some r := H; have A3 := zA A30; clear A30; obtain rfl := Option.some.inj H; go_enter Tryd.func67, Tryd.ntmps67; go_wp2_with (first | ((with_reducible refine gate_dst (N := 1) rfl ?_); refine box_event ?hg (N := 1) ?hd (cs := #[.string a0_0, .string a0_1, .slice A0_2 l0_2.length c0_2]) (t := 35) ?hr ?_; (case hd => rfl); (case hg => rfl); (case hr => first | (go_simp; done) | (go_simp; rfl)); intro gb12 hg w4 hbox hb; have n0_ := zA (zAD (by repeat (first | (with_reducible first | exact HB.out | apply zH | apply zF | apply zG) | exact HB.out)) hb); have n1_ := zA (hbox); have n2_ := zA ((by rw [hg]; exact (zAE (by repeat (first | (with_reducible first | exact HB.out | apply zH | apply zF | apply zG) | exact HB.out))) : w.heap.size ≤ gb12)); have n3_ := zA ((by rw [hg]; exact (zAE (by repeat (first | (with_reducible first | exact HB.out | apply zH | apply zF | apply zG) | exact HB.out))) : w.heap.size ≤ gb12)); clear HB; have HB := n0_; have BK12 := n1_; have GW12 := n2_; have GE12 := n3_; clear n0_ n1_ n2_ n3_; clear hb hbox hg; have hcz5_0 : w4.cell? ⟨gb12, 0, none⟩ = some (.string a0_0) := (zP BK12.out 0).trans rfl; have hcz5_1 : w4.cell? ⟨gb12, 1, none⟩ = some (.string a0_1) := (zP BK12.out 1).trans rfl; have hcz5_2 : w4.cell? ⟨gb12, 2, none⟩ = some (.slice A0_2 l0_2.length c0_2) := (zP BK12.out 2).trans rfl; have hfz5_0 := zO BK12.out 0; have hfz5_1 := zO BK12.out 1; have hfz5_2 := zO BK12.out 2) | ((with_reducible refine yB (f := 88) rfl ?_); refine goesL_ (some 4) rfl rfl Tryd.func88 (by kernel_rfl) rfl #[.agg #[.string a0_0, .string a0_1, .slice A0_2 l0_2.length c0_2]] rfl (by (try simp only [zAA, zAB, zAC]); first | done | rfl | (simp only [zZ, zY]; rfl)) ?_; (with_reducible refine (impl_Block_bytes.calls k a0_0 a0_1 _ _ l0_2 t10 _ ?side1 ?side2 A2.out).mono ?_); (case side1 => repeat (first | exact (Kd.C_below HR0_2.out HB.out) | (with_reducible refine zT ?_ _) | (with_reducible refine zU ?_ _) | (with_reducible refine zV ?_))); (case side2 => exact HC0_2.out); rintro e w6 ⟨rfl, hb⟩; refine ⟨_, rfl, ?_⟩; have n0_ := zA (yE (g := gb12) (o := .cells #[.string a0_0, .string a0_1, .slice A0_2 l0_2.length c0_2] 35 (0, 0)) (by (with_reducible repeat (first | refine zL ?_ _ | refine zN ?_ | refine zM ?_ _)); exact BK12.out) hb); have n1_ := zA (zAD (by repeat (first | (with_reducible first | exact HB.out | apply zH | apply zF | apply zG | refine zI ?_ GE12.out) | exact HB.out)) hb); clear BK12; clear HB; have BK12 := n0_; have HB := n1_; clear n0_ n1_; (try clear hb)) | ((with_reducible refine yB (f := 87) rfl ?_); refine goesL_ (some 5) rfl rfl Tryd.func87 (by kernel_rfl) rfl #[.int .u8 104, .string t10] rfl (by (try simp only [zAA, zAB, zAC]); first | done | rfl) ?_; (with_reducible refine (impl_digest.calls k 104 t10 t11 _ A3.out).mono ?_); rintro e w7 ⟨rfl, hb⟩; refine ⟨_, rfl, ?_⟩; have n0_ := zA (yE (g := gb12) (o := .cells #[.string a0_0, .string a0_1, .slice A0_2 l0_2.length c0_2] 35 (0, 0)) (by (with_reducible repeat (first | refine zL ?_ _ | refine zN ?_ | refine zM ?_ _)); exact BK12.out) hb); have n1_ := zA (zAD (by repeat (first | (with_reducible first | exact HB.out | apply zH | apply zF | apply zG | refine zI ?_ GE12.out) | exact HB.out)) hb); clear BK12; clear HB; have BK12 := n0_; have HB := n1_; clear n0_ n1_; (try clear hb))); go_ret; exact ⟨by first | rfl | (simp <;> rfl) | (simp [*] <;> rfl), by repeat (first | (with_reducible first | exact HB.out | apply zH | apply zF | apply zG | refine zI ?_ GE12.out) | exact HB.out)⟩
def impl_sealedText.f (k : Nat) (a0 : Int) (a1_0 : ByteArray) (a1_1 : ByteArray) (l1_2 : List ByteArray) : Option (ByteArray) := (strconv_Itoa_66.f a0).bind fun t10 => (if t10.size + 1 ≤ 9223372036854775807 then ((impl_Block_digest.f k a1_0 a1_1 l1_2).bind fun t11 => (if (t10 ++ (⟨#[58]⟩ : ByteArray)).size + t11.size ≤ 9223372036854775807 then (some ((t10 ++ (⟨#[58]⟩ : ByteArray)) ++ t11)) else (none))) else (none))
theorem impl_sealedText.calls (k : Nat) (a0 : Int) (a1_0 : ByteArray) (a1_1 : ByteArray) (A1_2 : Option Addr) (c1_2 : Nat) (l1_2 : List ByteArray) (r : ByteArray) (w : World) (hr1_2 : Kd.C Kd.string w A1_2 l1_2.length l1_2) (hc1_2 : l1_2.length ≤ c1_2) (h : impl_sealedText.f k a0 a1_0 a1_1 l1_2 = some r) :
  Calls Tryd.prog 44 #[.int .i64 a0, .agg #[.string a1_0, .string a1_1, .slice A1_2 l1_2.length c1_2]] w fun e w' => e = .returned (.string r) ∧ Below w.heap.size w w' := by
 have hu35 := Tryd.underlying35; have HR1_2 := zA hr1_2; have HC1_2 := zA hc1_2; clear hr1_2 hc1_2; have HB := zA (Below.refl w.heap.size w); have H : ((strconv_Itoa_66.f a0).bind fun t11 => (if t11.size + 1 ≤ 9223372036854775807 then ((impl_Block_digest.f k a1_0 a1_1 l1_2).bind fun t12 => (if (t11 ++ (⟨#[58]⟩ : ByteArray)).size + t12.size ≤ 9223372036854775807 then (some ((t11 ++ (⟨#[58]⟩ : ByteArray)) ++ t12)) else (none))) else (none))) = some r := h; clear h; replace H := zAF H; obtain ⟨t11, A30, H⟩ := H; replace H : (if t11.size + 1 ≤ 9223372036854775807 then ((impl_Block_digest.f k a1_0 a1_1 l1_2).bind fun t12 => (if (t11 ++ (⟨#[58]⟩ : ByteArray)).size + t12.size ≤ 9223372036854775807 then (some ((t11 ++ (⟨#[58]⟩ : ByteArray)) ++ t12)) else (none))) else (none)) = some r := H; have A3 := zA A30; clear A30
 by_cases c4 : t11.size + 1 ≤ 9223372036854775807
 ·rw [if_pos c4] at H
  have c4b0 := eq_true c4; have c4b1 : decide (t11.size + 1 ≤ 9223372036854775807) = true := zX c4
  try have c4b2 : (9223372036854775807 < t11.size + 1) = False := eq_false (Nat.not_lt.2 c4)
  replace H := zAF H; obtain ⟨t12, A50, H⟩ := H; replace H : (if (t11 ++ (⟨#[58]⟩ : ByteArray)).size + t12.size ≤ 9223372036854775807 then (some ((t11 ++ (⟨#[58]⟩ : ByteArray)) ++ t12)) else (none)) = some r := H; have A5 := zA A50; clear A50
  by_cases c6 : (t11 ++ (⟨#[58]⟩ : ByteArray)).size + t12.size ≤ 9223372036854775807
  ·rw [if_pos c6] at H
   have c6b0 := eq_true c6; have c6b1 : decide ((t11 ++ (⟨#[58]⟩ : ByteArray)).size + t12.size ≤ 9223372036854775807) = true := zX c6; (try (have c6b3 := (show (t11 ++ (⟨#[58]⟩ : ByteArray)).size + t12.size ≤ 9223372036854775807 from c6); simp only [ByteArray.size_append, ByteArray.size_extract, Nat.min_self, Nat.sub_zero, show (⟨#[58]⟩ : ByteArray).size = 1 from rfl] at c6b3; have c6b4 := eq_true c6b3; have c6b5 : decide (_) = true := zX c6b3; have c6b6 := eq_false (Nat.not_lt.2 c6b3); clear c6b3))
   try have c6b2 : (9223372036854775807 < (t11 ++ (⟨#[58]⟩ : ByteArray)).size + t12.size) = False := eq_false (Nat.not_lt.2 c6)
   obtain rfl := Option.some.inj H; go_enter Tryd.func44, Tryd.ntmps44
   try go_wp2_with (first | ((with_reducible refine gate_dst (N := 3) rfl ?_); refine box_event ?hg (N := 3) ?hd (cs := #[.string a1_0, .string a1_1, .slice A1_2 l1_2.length c1_2]) (t := 35) ?hr ?_; (case hd => rfl); (case hg => rfl); (case hr => first | (go_simp; done) | (go_simp; rfl)); intro gb13 hg w7 hbox hb; have n0_ := zA (zAD (by repeat (first | (with_reducible first | exact HB.out | apply zH | apply zF | apply zG) | exact HB.out)) hb); have n1_ := zA (hbox); have n2_ := zA ((by rw [hg]; exact (zAE (by repeat (first | (with_reducible first | exact HB.out | apply zH | apply zF | apply zG) | exact HB.out))) : w.heap.size ≤ gb13)); have n3_ := zA ((by rw [hg]; exact (zAE (by repeat (first | (with_reducible first | exact HB.out | apply zH | apply zF | apply zG) | exact HB.out))) : w.heap.size ≤ gb13)); clear HB; have HB := n0_; have BK13 := n1_; have GW13 := n2_; have GE13 := n3_; clear n0_ n1_ n2_ n3_; clear hb hbox hg))
   have n0_ := zA (zN BK13.out); have n1_ := zA (zG HB.out); clear BK13 HB; have BK13 := n0_; have HB := n1_; clear n0_ n1_; refine start_ (n := 7) (S := fun w' => w'.cell? ⟨gb13, 0, none⟩ = some (.string a1_0) ∧ w'.cell? ⟨gb13, 1, none⟩ = some (.string a1_1) ∧ w'.cell? ⟨gb13, 2, none⟩ = some (.slice A1_2 l1_2.length c1_2)) (ds := []) #[false, false, false, false, false, false, false] (by kernel_rfl) rfl rfl ⟨(zP BK13.out 0).trans rfl, (zP BK13.out 1).trans rfl, (zP BK13.out 2).trans rfl⟩ (fun hHeld => ?_); generalize w7.drew = w8 at BK13 HB hHeld ⊢; refine pure_ (i := 0) (N := some 5) (v := ?_) (a' := ?_) #[true, false, false, false, false, false, false] rfl rfl (by kernel_rfl) (fun _ _ _ h => h) (Or.inl ⟨by rfl, ?_⟩) ?_ ?_; rotate_left
   ·intro w'
    go_simp
    with_reducible rfl
   rotate_left
   ·simp only [Act.put, zC, zD, zE, i64_w, i32_w]
    rfl
   refine take_ (i := 3) (N := some 8) (v := ?_) (a' := ?_) #[true, false, false, true, false, false, false] rfl rfl (by kernel_rfl) (fun _ _ _ h => h) (Or.inl ⟨by rfl, ?_⟩) hHeld ?_ ?_; rotate_left
   ·rintro w' ⟨s0, s1, s2⟩
    go_simp
    with_reducible rfl
   rotate_left
   ·simp only [Act.put, zC, zD, zE, i64_w, i32_w]
    rfl
   refine one_ (i := 1) (N := some 6) #[true, true, false, true, false, false, false] rfl rfl (by kernel_rfl) (by decide) (fun K hK => ?_); refine goes_ Tryd.func66 (by kernel_rfl) rfl #[.int .i64 a0] (by rfl) rfl rfl (by (try simp only [zAA, zAB, zAC]); first | done | rfl) ?_
   with_reducible refine (strconv_Itoa_66.calls a0 t11 _ A3.out).mono ?_
   rintro e w9 ⟨rfl, hb⟩; refine ⟨_, rfl, ?_⟩; have n0_ := zA (yE (g := gb13) (o := .cells #[.string a1_0, .string a1_1, .slice A1_2 l1_2.length c1_2] 35 (0, 0)) (by (with_reducible repeat (first | refine zL ?_ _ | refine zN ?_ | refine zM ?_ _)); exact BK13.out) hb); have n1_ := zA (zAD (by repeat (first | (with_reducible first | exact HB.out | apply zH | apply zF | apply zG | refine zI ?_ GE13.out) | exact HB.out)) hb); clear BK13 HB; have BK13 := n0_; have HB := n1_; clear n0_ n1_; (try clear hb); refine hK.out _ _ ⟨(zP BK13.out 0).trans rfl, (zP BK13.out 1).trans rfl, (zP BK13.out 2).trans rfl⟩ (fun hHeld => ?_); clear hK K; refine norm_ (a' := ?_) ?_ ?_; rotate_left
   ·show Act.put _ (some 6) _ = _
    simp only [Act.put, zC, zD, zE, i64_w, i32_w]; rfl
   refine pure_ (i := 2) (N := some 7) (v := ?_) (a' := ?_) #[true, true, true, true, false, false, false] rfl rfl (by kernel_rfl) (fun _ _ _ h => h) (Or.inl ⟨by rfl, ?_⟩) ?_ ?_; rotate_left
   ·intro w'
    go_simp
    with_reducible rfl
   rotate_left
   ·simp only [Act.put, zC, zD, zE, i64_w, i32_w]
    rfl
   refine one_ (i := 4) (N := some 9) #[true, true, true, true, true, false, false] rfl rfl (by kernel_rfl) (by decide) (fun K hK => ?_); refine goes_ Tryd.func67 (by kernel_rfl) rfl #[.agg #[.string a1_0, .string a1_1, .slice A1_2 l1_2.length c1_2]] (by rfl) rfl rfl (by (try simp only [zAA, zAB, zAC]); first | done | rfl | (simp only [zZ, zY]; rfl)) ?_
   with_reducible refine (impl_Block_digest.calls k a1_0 a1_1 _ _ l1_2 t12 _ ?side1 ?side2 A5.out).mono ?_
   (case side1 => repeat (first | exact (Kd.C_below HR1_2.out HB.out) | (with_reducible refine zT ?_ _) | (with_reducible refine zU ?_ _) | (with_reducible refine zV ?_))); (case side2 => exact HC1_2.out); rintro e w10 ⟨rfl, hb⟩; refine ⟨_, rfl, ?_⟩; have n0_ := zA (yE (g := gb13) (o := .cells #[.string a1_0, .string a1_1, .slice A1_2 l1_2.length c1_2] 35 (0, 0)) (by (with_reducible repeat (first | refine zL ?_ _ | refine zN ?_ | refine zM ?_ _)); exact BK13.out) hb); have n1_ := zA (zAD (by repeat (first | (with_reducible first | exact HB.out | apply zH | apply zF | apply zG | refine zI ?_ GE13.out) | exact HB.out)) hb); clear BK13 HB; have BK13 := n0_; have HB := n1_; clear n0_ n1_; (try clear hb); refine hK.out _ _ ⟨(zP BK13.out 0).trans rfl, (zP BK13.out 1).trans rfl, (zP BK13.out 2).trans rfl⟩ (fun hHeld => ?_); clear hK K; refine norm_ (a' := ?_) ?_ ?_; rotate_left
   ·show Act.put _ (some 9) _ = _
    simp only [Act.put, zC, zD, zE, i64_w, i32_w]; rfl
   refine pure_ (i := 5) (N := some 10) (v := ?_) (a' := ?_) #[true, true, true, true, true, true, false] rfl rfl (by kernel_rfl) (fun _ _ _ h => h) (Or.inl ⟨by rfl, ?_⟩) ?_ ?_; rotate_left
   ·intro w'
    go_simp
    with_reducible rfl
   rotate_left
   ·simp only [Act.put, zC, zD, zE, i64_w, i32_w]
    rfl
   refine pure_ (i := 6) (N := some 4) (v := ?_) (a' := ?_) #[true, true, true, true, true, true, true] rfl rfl (by kernel_rfl) (fun _ _ _ h => h) (Or.inl ⟨by rfl, ?_⟩) ?_ ?_; rotate_left
   ·intro w'
    go_simp
    with_reducible rfl
   rotate_left
   ·simp only [Act.put, zC, zD, zE, i64_w, i32_w]
    rfl
   refine done_ (by kernel_rfl) ?_
   try go_wp2
   go_ret; exact ⟨by first | rfl | (simp <;> rfl) | (simp [*] <;> rfl), by repeat (first | (with_reducible first | exact HB.out | apply zH | apply zF | apply zG | refine zI ?_ GE13.out) | exact HB.out)⟩
  ·rw [if_neg c6] at H
   exact absurd H (by simp)
 ·rw [if_neg c4] at H
  exact absurd H (by simp)
def impl_SealedText.f (k : Nat) (a0 : Int) (a1_0 : ByteArray) (a1_1 : ByteArray) (l1_2 : List ByteArray) : Option (ByteArray × Bool) := (impl_within.f a0 0 12).bind fun t10 => (if t10 = true then ((impl_GoodBlock.f k a1_0 a1_1 l1_2).bind fun t11 => (if t11 = true then ((impl_sealedText.f k a0 a1_0 a1_1 l1_2).bind fun t12 => (some (t12, true))) else (some ((⟨#[]⟩ : ByteArray), false)))) else (some ((⟨#[]⟩ : ByteArray), false)))
theorem impl_SealedText.calls (k : Nat) (a0 : Int) (a1_0 : ByteArray) (a1_1 : ByteArray) (A1_2 : Option Addr) (c1_2 : Nat) (l1_2 : List ByteArray) (r1 : ByteArray) (r2 : Bool) (w : World) (hr1_2 : Kd.C Kd.string w A1_2 l1_2.length l1_2) (hc1_2 : l1_2.length ≤ c1_2) (h : impl_SealedText.f k a0 a1_0 a1_1 l1_2 = some (r1, r2)) :
  Calls Tryd.prog 15 #[.int .i64 a0, .agg #[.string a1_0, .string a1_1, .slice A1_2 l1_2.length c1_2]] w fun e w' => e = .returned (.tuple #[.string r1, .bool r2]) ∧ Below w.heap.size w w' := by
 have hu35 := Tryd.underlying35; have HR1_2 := zA hr1_2; have HC1_2 := zA hc1_2; clear hr1_2 hc1_2; have HB := zA (Below.refl w.heap.size w); have H : ((impl_within.f a0 0 12).bind fun t17 => (if t17 = true then ((impl_GoodBlock.f k a1_0 a1_1 l1_2).bind fun t18 => (if t18 = true then ((impl_sealedText.f k a0 a1_0 a1_1 l1_2).bind fun t19 => (some (t19, true))) else (some ((⟨#[]⟩ : ByteArray), false)))) else (some ((⟨#[]⟩ : ByteArray), false)))) = some (r1, r2) := h; clear h; replace H := zAF H; obtain ⟨t17, A30, H⟩ := H; replace H : (if t17 = true then ((impl_GoodBlock.f k a1_0 a1_1 l1_2).bind fun t18 => (if t18 = true then ((impl_sealedText.f k a0 a1_0 a1_1 l1_2).bind fun t19 => (some (t19, true))) else (some ((⟨#[]⟩ : ByteArray), false)))) else (some ((⟨#[]⟩ : ByteArray), false))) = some (r1, r2) := H; have A3 := zA A30; clear A30
 by_cases c4 : t17 = true
 ·subst c4
  have H1 : ((impl_GoodBlock.f k a1_0 a1_1 l1_2).bind fun t18 => (if t18 = true then ((impl_sealedText.f k a0 a1_0 a1_1 l1_2).bind fun t19 => (some (t19, true))) else (some ((⟨#[]⟩ : ByteArray), false)))) = some (r1, r2) := by rw [if_pos rfl] at H; exact H
  clear H; have H := H1; clear H1; replace H := zAF H; obtain ⟨t18, A50, H⟩ := H; replace H : (if t18 = true then ((impl_sealedText.f k a0 a1_0 a1_1 l1_2).bind fun t19 => (some (t19, true))) else (some ((⟨#[]⟩ : ByteArray), false))) = some (r1, r2) := H; have A5 := zA A50; clear A50
  by_cases c6 : t18 = true
  ·subst c6
   have H1 : ((impl_sealedText.f k a0 a1_0 a1_1 l1_2).bind fun t19 => (some (t19, true))) = some (r1, r2) := by rw [if_pos rfl] at H; exact H
   clear H; have H := H1; clear H1; replace H := zAF H; obtain ⟨t19, A70, H⟩ := H; replace H : (some (t19, true)) = some (r1, r2) := H; have A7 := zA A70; clear A70; simp only [Option.some.injEq, Prod.mk.injEq] at H; obtain ⟨rfl, rfl⟩ := H; go_enter Tryd.func15, Tryd.ntmps15; go_wp2_with (first | ((with_reducible refine gate_dst (N := 3) rfl ?_); refine box_event ?hg (N := 3) ?hd (cs := #[.string a1_0, .string a1_1, .slice A1_2 l1_2.length c1_2]) (t := 35) ?hr ?_; (case hd => rfl); (case hg => rfl); (case hr => first | (go_simp; done) | (go_simp; rfl)); intro gb20 hg w8 hbox hb; have n0_ := zA (zAD (by repeat (first | (with_reducible first | exact HB.out | apply zH | apply zF | apply zG) | exact HB.out)) hb); have n1_ := zA (hbox); have n2_ := zA ((by rw [hg]; exact (zAE (by repeat (first | (with_reducible first | exact HB.out | apply zH | apply zF | apply zG) | exact HB.out))) : w.heap.size ≤ gb20)); have n3_ := zA ((by rw [hg]; exact (zAE (by repeat (first | (with_reducible first | exact HB.out | apply zH | apply zF | apply zG) | exact HB.out))) : w.heap.size ≤ gb20)); clear HB; have HB := n0_; have BK20 := n1_; have GW20 := n2_; have GE20 := n3_; clear n0_ n1_ n2_ n3_; clear hb hbox hg) | ((with_reducible refine yB (f := 42) rfl ?_); refine goesL_ (some 7) rfl rfl Tryd.func42 (by kernel_rfl) rfl #[.int .i64 a0, .int .i64 0, .int .i64 12] rfl (by (try simp only [zAA, zAB, zAC]); first | done | rfl) ?_; (with_reducible refine (impl_within.calls a0 0 12 true _ A3.out).mono ?_); rintro e w' ⟨rfl, ⟨nd, rfl⟩⟩; refine ⟨_, rfl, ?_⟩; have hcz9_0 : w8.cell? ⟨gb20, 0, none⟩ = some (.string a1_0) := (zP BK20.out 0).trans rfl; have hcz9_1 : w8.cell? ⟨gb20, 1, none⟩ = some (.string a1_1) := (zP BK20.out 1).trans rfl; have hcz9_2 : w8.cell? ⟨gb20, 2, none⟩ = some (.slice A1_2 l1_2.length c1_2) := (zP BK20.out 2).trans rfl; have hfz9_0 := zO BK20.out 0; have hfz9_1 := zO BK20.out 1; have hfz9_2 := zO BK20.out 2) | (go_at_call 43; (with_reducible refine (impl_GoodBlock.calls k a1_0 a1_1 _ _ l1_2 true _ ?side1 ?side2 A5.out).mono ?_); (case side1 => repeat (first | exact (Kd.C_below HR1_2.out (by repeat (first | (with_reducible first | exact HB.out | apply zH | apply zF | apply zG | refine zI ?_ GE20.out) | exact HB.out))) | (with_reducible refine zT ?_ _) | (with_reducible refine zU ?_ _) | (with_reducible refine zV ?_))); (case side2 => exact HC1_2.out); rintro e w10 ⟨rfl, hb⟩; have n0_ := zA (yE (g := gb20) (o := .cells #[.string a1_0, .string a1_1, .slice A1_2 l1_2.length c1_2] 35 (0, 0)) (by (with_reducible repeat (first | refine zL ?_ _ | refine zN ?_ | refine zM ?_ _)); exact BK20.out) hb); have n1_ := zA (zAD (by repeat (first | (with_reducible first | exact HB.out | apply zH | apply zF | apply zG | refine zI ?_ GE20.out) | exact HB.out)) hb); clear BK20; clear HB; have BK20 := n0_; have HB := n1_; clear n0_ n1_; (try clear hb); have hcz11_0 : w10.cell? ⟨gb20, 0, none⟩ = some (.string a1_0) := (zP BK20.out 0).trans rfl; have hcz11_1 : w10.cell? ⟨gb20, 1, none⟩ = some (.string a1_1) := (zP BK20.out 1).trans rfl; have hcz11_2 : w10.cell? ⟨gb20, 2, none⟩ = some (.slice A1_2 l1_2.length c1_2) := (zP BK20.out 2).trans rfl; have hfz11_0 := zO BK20.out 0; have hfz11_1 := zO BK20.out 1; have hfz11_2 := zO BK20.out 2) | ((with_reducible refine yB (f := 44) rfl ?_); refine goesL_ (some 16) rfl rfl Tryd.func44 (by kernel_rfl) rfl #[.int .i64 a0, .agg #[.string a1_0, .string a1_1, .slice A1_2 l1_2.length c1_2]] rfl (by (try simp only [zAA, zAB, zAC]); first | done | rfl | (simp only [zZ, zY]; rfl)) ?_; (with_reducible refine (impl_sealedText.calls k a0 a1_0 a1_1 _ _ l1_2 t19 _ ?side1 ?side2 A7.out).mono ?_); (case side1 => repeat (first | exact (Kd.C_below HR1_2.out HB.out) | (with_reducible refine zT ?_ _) | (with_reducible refine zU ?_ _) | (with_reducible refine zV ?_))); (case side2 => exact HC1_2.out); rintro e w12 ⟨rfl, hb⟩; refine ⟨_, rfl, ?_⟩; have n0_ := zA (yE (g := gb20) (o := .cells #[.string a1_0, .string a1_1, .slice A1_2 l1_2.length c1_2] 35 (0, 0)) (by (with_reducible repeat (first | refine zL ?_ _ | refine zN ?_ | refine zM ?_ _)); exact BK20.out) hb); have n1_ := zA (zAD (by repeat (first | (with_reducible first | exact HB.out | apply zH | apply zF | apply zG | refine zI ?_ GE20.out) | exact HB.out)) hb); clear BK20; clear HB; have BK20 := n0_; have HB := n1_; clear n0_ n1_; (try clear hb))); go_ret2; exact ⟨by first | rfl | (simp <;> rfl) | (simp [*] <;> rfl), by repeat (first | (with_reducible first | exact HB.out | apply zH | apply zF | apply zG | refine zI ?_ GE20.out) | exact HB.out)⟩
  ·replace c6 := Bool.eq_false_iff.mpr c6
   subst c6; have H1 : (some ((⟨#[]⟩ : ByteArray), false)) = some (r1, r2) := by rw [if_neg (show ¬ (false = true) by decide)] at H; exact H
   clear H; have H := H1; clear H1; simp only [Option.some.injEq, Prod.mk.injEq] at H; obtain ⟨rfl, rfl⟩ := H; go_enter Tryd.func15, Tryd.ntmps15; go_wp2_with (first | ((with_reducible refine gate_dst (N := 3) rfl ?_); refine box_event ?hg (N := 3) ?hd (cs := #[.string a1_0, .string a1_1, .slice A1_2 l1_2.length c1_2]) (t := 35) ?hr ?_; (case hd => rfl); (case hg => rfl); (case hr => first | (go_simp; done) | (go_simp; rfl)); intro gb20 hg w13 hbox hb; have n0_ := zA (zAD (by repeat (first | (with_reducible first | exact HB.out | apply zH | apply zF | apply zG) | exact HB.out)) hb); have n1_ := zA (hbox); have n2_ := zA ((by rw [hg]; exact (zAE (by repeat (first | (with_reducible first | exact HB.out | apply zH | apply zF | apply zG) | exact HB.out))) : w.heap.size ≤ gb20)); have n3_ := zA ((by rw [hg]; exact (zAE (by repeat (first | (with_reducible first | exact HB.out | apply zH | apply zF | apply zG) | exact HB.out))) : w.heap.size ≤ gb20)); clear HB; have HB := n0_; have BK20 := n1_; have GW20 := n2_; have GE20 := n3_; clear n0_ n1_ n2_ n3_; clear hb hbox hg) | ((with_reducible refine yB (f := 42) rfl ?_); refine goesL_ (some 7) rfl rfl Tryd.func42 (by kernel_rfl) rfl #[.int .i64 a0, .int .i64 0, .int .i64 12] rfl (by (try simp only [zAA, zAB, zAC]); first | done | rfl) ?_; (with_reducible refine (impl_within.calls a0 0 12 true _ A3.out).mono ?_); rintro e w' ⟨rfl, ⟨nd, rfl⟩⟩; refine ⟨_, rfl, ?_⟩; have hcz14_0 : w13.cell? ⟨gb20, 0, none⟩ = some (.string a1_0) := (zP BK20.out 0).trans rfl; have hcz14_1 : w13.cell? ⟨gb20, 1, none⟩ = some (.string a1_1) := (zP BK20.out 1).trans rfl; have hcz14_2 : w13.cell? ⟨gb20, 2, none⟩ = some (.slice A1_2 l1_2.length c1_2) := (zP BK20.out 2).trans rfl; have hfz14_0 := zO BK20.out 0; have hfz14_1 := zO BK20.out 1; have hfz14_2 := zO BK20.out 2) | (go_at_call 43; (with_reducible refine (impl_GoodBlock.calls k a1_0 a1_1 _ _ l1_2 false _ ?side1 ?side2 A5.out).mono ?_); (case side1 => repeat (first | exact (Kd.C_below HR1_2.out (by repeat (first | (with_reducible first | exact HB.out | apply zH | apply zF | apply zG | refine zI ?_ GE20.out) | exact HB.out))) | (with_reducible refine zT ?_ _) | (with_reducible refine zU ?_ _) | (with_reducible refine zV ?_))); (case side2 => exact HC1_2.out); rintro e w15 ⟨rfl, hb⟩; have n0_ := zA (yE (g := gb20) (o := .cells #[.string a1_0, .string a1_1, .slice A1_2 l1_2.length c1_2] 35 (0, 0)) (by (with_reducible repeat (first | refine zL ?_ _ | refine zN ?_ | refine zM ?_ _)); exact BK20.out) hb); have n1_ := zA (zAD (by repeat (first | (with_reducible first | exact HB.out | apply zH | apply zF | apply zG | refine zI ?_ GE20.out) | exact HB.out)) hb); clear BK20; clear HB; have BK20 := n0_; have HB := n1_; clear n0_ n1_; (try clear hb))); go_ret2; exact ⟨by first | rfl | (simp <;> rfl) | (simp [*] <;> rfl), by repeat (first | (with_reducible first | exact HB.out | apply zH | apply zF | apply zG | refine zI ?_ GE20.out) | exact HB.out)⟩
 ·replace c4 := Bool.eq_false_iff.mpr c4
  subst c4; have H1 : (some ((⟨#[]⟩ : ByteArray), false)) = some (r1, r2) := by rw [if_neg (show ¬ (false = true) by decide)] at H; exact H
  clear H; have H := H1; clear H1; simp only [Option.some.injEq, Prod.mk.injEq] at H; obtain ⟨rfl, rfl⟩ := H; go_enter Tryd.func15, Tryd.ntmps15; go_wp2_with (first | ((with_reducible refine gate_dst (N := 3) rfl ?_); refine box_event ?hg (N := 3) ?hd (cs := #[.string a1_0, .string a1_1, .slice A1_2 l1_2.length c1_2]) (t := 35) ?hr ?_; (case hd => rfl); (case hg => rfl); (case hr => first | (go_simp; done) | (go_simp; rfl)); intro gb20 hg w16 hbox hb; have n0_ := zA (zAD (by repeat (first | (with_reducible first | exact HB.out | apply zH | apply zF | apply zG) | exact HB.out)) hb); have n1_ := zA (hbox); have n2_ := zA ((by rw [hg]; exact (zAE (by repeat (first | (with_reducible first | exact HB.out | apply zH | apply zF | apply zG) | exact HB.out))) : w.heap.size ≤ gb20)); have n3_ := zA ((by rw [hg]; exact (zAE (by repeat (first | (with_reducible first | exact HB.out | apply zH | apply zF | apply zG) | exact HB.out))) : w.heap.size ≤ gb20)); clear HB; have HB := n0_; have BK20 := n1_; have GW20 := n2_; have GE20 := n3_; clear n0_ n1_ n2_ n3_; clear hb hbox hg) | ((with_reducible refine yB (f := 42) rfl ?_); refine goesL_ (some 7) rfl rfl Tryd.func42 (by kernel_rfl) rfl #[.int .i64 a0, .int .i64 0, .int .i64 12] rfl (by (try simp only [zAA, zAB, zAC]); first | done | rfl) ?_; (with_reducible refine (impl_within.calls a0 0 12 false _ A3.out).mono ?_); rintro e w' ⟨rfl, ⟨nd, rfl⟩⟩; refine ⟨_, rfl, ?_⟩)); go_ret2; exact ⟨by first | rfl | (simp <;> rfl) | (simp [*] <;> rfl), by repeat (first | (with_reducible first | exact HB.out | apply zH | apply zF | apply zG | refine zI ?_ GE20.out) | exact HB.out)⟩
def laws_eqStringS.l0 : Nat → List ByteArray → List ByteArray → Int → Option (Bool)
 | 0, _, _, _ => none
 | k + 1, x0, x1, x5 => if x5 < (x0.length : Int) then (if 0 ≤ x5 then (if x5 < (x1.length : Int) then (if (rdOf ByteArray.empty x0 x5).toList = (rdOf ByteArray.empty x1 x5).toList then (laws_eqStringS.l0 k x0 x1 (wrap64 (x5 + 1))) else (some false)) else (none)) else (none)) else (some true)
def laws_eqStringS.f (k : Nat) (l0 : List ByteArray) (l1 : List ByteArray) : Option (Bool) := if (l0.length : Int) = (l1.length : Int) then (laws_eqStringS.l0 k l0 l1 0) else (some false)
theorem laws_eqStringS.calls (k : Nat) (A0 : Option Addr) (c0 : Nat) (l0 : List ByteArray) (A1 : Option Addr) (c1 : Nat) (l1 : List ByteArray) (r : Bool) (w : World) (hr0 : Kd.C Kd.string w A0 l0.length l0) (hc0 : l0.length ≤ c0) (hr1 : Kd.C Kd.string w A1 l1.length l1) (hc1 : l1.length ≤ c1) (h : laws_eqStringS.f k l0 l1 = some r) :
  Calls Tryd.prog 45 #[.slice A0 l0.length c0, .slice A1 l1.length c1] w fun e w' => e = .returned (.bool r) ∧ Drawn0 w w' := by
 have HR0 := zA hr0; have HC0 := zA hc0; clear hr0 hc0; have HR1 := zA hr1; have HC1 := zA hc1; clear hr1 hc1; have H : (if (l0.length : Int) = (l1.length : Int) then (laws_eqStringS.l0 k l0 l1 0) else (some false)) = some r := h; clear h
 by_cases c3 : (l0.length : Int) = (l1.length : Int)
 ·rw [if_pos c3] at H
  have c3b0 : ((l0.length : Int) == (l1.length : Int)) = true := beq_iff_eq.mpr c3; have c3b1 : ((l0.length : Int) != (l1.length : Int)) = false := bne_eq_false_iff_eq.mpr c3; have c3b2 : (l0.length == l1.length) = true := by first | simpa using c3 | (simp at c3 ⊢; omega)
  clear c3; have H' := zA H; clear H; go_enter Tryd.func45, Tryd.ntmps45; go_wp2
  repeat (go_quiet (fail); try go_wp2)
  go_loopg [5] k (fun kq v5 w' => ∃ (x5_1 : Int), v5 = .int .i64 x5_1 ∧ Aside0 (laws_eqStringS.l0 kq l0 l1 x5_1 = some r) ∧ Aside0 (kq ≤ k) ∧ Drawn0 w w')
  case atStart => exact ⟨(0), (by first | rfl | (simp; done) | (simp [*]; done) | (simp [bne]; done)), H', ⟨Nat.le_refl _⟩, by repeat (first | exact Drawn0.refl _ | apply Drawn0.step)⟩
  case round =>
   clear H'
   try clear c1
   try clear p2
   try clear c3
   try clear c3b0
   try clear c3b1
   try clear c3b2
   obtain ⟨x5_1, rfl, HA, HK1, ⟨m1, rfl⟩⟩ := hrel
   cases gk with
   | zero => exact absurd HA.out (by simp [laws_eqStringS.l0])
   | succ k1 =>
    have H := HA.out; clear HA; simp only [laws_eqStringS.l0] at H
    by_cases c4 : x5_1 < (l0.length : Int)
    ·rw [if_pos c4] at H
     have c4b0 : decide (x5_1 < (l0.length : Int)) = true := zX c4; clear c4
     by_cases c5 : 0 ≤ x5_1
     ·rw [if_pos c5] at H
      have c5b0 : decide (0 ≤ x5_1) = true := zX c5; clear c5
      by_cases c6 : x5_1 < (l1.length : Int)
      ·rw [if_pos c6] at H
       have c6b0 : decide (x5_1 < (l1.length : Int)) = true := zX c6; clear c6
       by_cases c7 : (rdOf ByteArray.empty l0 x5_1).toList = (rdOf ByteArray.empty l1 x5_1).toList
       ·rw [if_pos c7] at H
        have c7b0 : ((rdOf ByteArray.empty l0 x5_1).toList == (rdOf ByteArray.empty l1 x5_1).toList) = true := beq_iff_eq.mpr c7; have c7b1 : ((rdOf ByteArray.empty l0 x5_1).toList != (rdOf ByteArray.empty l1 x5_1).toList) = false := bne_eq_false_iff_eq.mpr c7; clear c7; have H' := zA H; clear H; have p10 : 0 ≤ (x5_1 : Int) := zW (by first | (with_reducible assumption) | assumption); have q10 : x5_1 < (l0.length : Int) := zW (by first | (with_reducible assumption) | assumption); obtain ⟨ad10, e10, hx10_0⟩ := Kd.at_string HR0.out x5_1 p10 q10
        cases e10
        replace p10 := eq_true p10; replace q10 := eq_true q10; have p11 : 0 ≤ (x5_1 : Int) := zW (by first | (with_reducible assumption) | assumption); have q11 : x5_1 < (l1.length : Int) := zW (by first | (with_reducible assumption) | assumption); obtain ⟨ad11, e11, hx11_0⟩ := Kd.at_string HR1.out x5_1 p11 q11
        cases e11
        replace p11 := eq_true p11; replace q11 := eq_true q11; go_wp2
        repeat (go_quiet (fail); try go_wp2)
        go_roundg k1
        case measure => have := HK1.out; omega
        case rel => exact ⟨(wrap64 (x5_1 + 1)), (by first | rfl | (simp; done) | (simp [*]; done) | (simp [bne]; done)), H', ⟨by have := HK1.out; omega⟩, by repeat (first | exact Drawn0.refl _ | apply Drawn0.step)⟩
       ·rw [if_neg c7] at H
        have c7b0 : ((rdOf ByteArray.empty l0 x5_1).toList == (rdOf ByteArray.empty l1 x5_1).toList) = false := beq_eq_false_iff_ne.mpr c7; have c7b1 : ((rdOf ByteArray.empty l0 x5_1).toList != (rdOf ByteArray.empty l1 x5_1).toList) = true := bne_iff_ne.mpr c7; obtain rfl := Option.some.inj H; have p10 : 0 ≤ (x5_1 : Int) := zW (by first | (with_reducible assumption) | assumption); have q10 : x5_1 < (l0.length : Int) := zW (by first | (with_reducible assumption) | assumption); obtain ⟨ad10, e10, hx10_0⟩ := Kd.at_string HR0.out x5_1 p10 q10
        cases e10
        replace p10 := eq_true p10; replace q10 := eq_true q10; have p11 : 0 ≤ (x5_1 : Int) := zW (by first | (with_reducible assumption) | assumption); have q11 : x5_1 < (l1.length : Int) := zW (by first | (with_reducible assumption) | assumption); obtain ⟨ad11, e11, hx11_0⟩ := Kd.at_string HR1.out x5_1 p11 q11
        cases e11
        replace p11 := eq_true p11; replace q11 := eq_true q11; go_wp2
        repeat (go_quiet (fail); try go_wp2)
        go_ret; exact ⟨by first | rfl | (simp; done) | (simp [*]; done) | (simp [bne]; done), by repeat (first | exact Drawn0.refl _ | apply Drawn0.step)⟩
      ·rw [if_neg c6] at H
       exact absurd H (by simp)
     ·rw [if_neg c5] at H
      exact absurd H (by simp)
    ·rw [if_neg c4] at H
     have c4b0 : decide (x5_1 < (l0.length : Int)) = false := decide_eq_false c4; clear c4; obtain rfl := Option.some.inj H; go_wp2
     repeat (go_quiet (fail); try go_wp2)
     go_ret; exact ⟨by first | rfl | (simp; done) | (simp [*]; done) | (simp [bne]; done), by repeat (first | exact Drawn0.refl _ | apply Drawn0.step)⟩
 ·rw [if_neg c3] at H
  have c3b0 : ((l0.length : Int) == (l1.length : Int)) = false := beq_eq_false_iff_ne.mpr c3; have c3b1 : ((l0.length : Int) != (l1.length : Int)) = true := bne_iff_ne.mpr c3; have c3b2 : (l0.length == l1.length) = false := by first | simpa using c3 | (simp at c3 ⊢; omega)
  obtain rfl := Option.some.inj H; go_enter Tryd.func45, Tryd.ntmps45; go_wp2
  repeat (go_quiet (fail); try go_wp2)
  go_ret; exact ⟨by first | rfl | (simp; done) | (simp [*]; done) | (simp [bne]; done), by repeat (first | exact Drawn0.refl _ | apply Drawn0.step)⟩
def laws_eqBlock.f (k : Nat) (a0_0 : ByteArray) (a0_1 : ByteArray) (l0_2 : List ByteArray) (a1_0 : ByteArray) (a1_1 : ByteArray) (l1_2 : List ByteArray) : Option (Bool) := if a0_0.toList = a1_0.toList then (if a0_1.toList = a1_1.toList then ((laws_eqStringS.f k l0_2 l1_2).bind fun t10 => (if t10 = true then (some true) else (some false))) else (some false)) else (some false)
theorem laws_eqBlock.calls (k : Nat) (a0_0 : ByteArray) (a0_1 : ByteArray) (A0_2 : Option Addr) (c0_2 : Nat) (l0_2 : List ByteArray) (a1_0 : ByteArray) (a1_1 : ByteArray) (A1_2 : Option Addr) (c1_2 : Nat) (l1_2 : List ByteArray) (r : Bool) (w : World) (hr0_2 : Kd.C Kd.string w A0_2 l0_2.length l0_2) (hc0_2 : l0_2.length ≤ c0_2) (hr1_2 : Kd.C Kd.string w A1_2 l1_2.length l1_2) (hc1_2 : l1_2.length ≤ c1_2) (h : laws_eqBlock.f k a0_0 a0_1 l0_2 a1_0 a1_1 l1_2 = some r) :
  Calls Tryd.prog 16 #[.agg #[.string a0_0, .string a0_1, .slice A0_2 l0_2.length c0_2], .agg #[.string a1_0, .string a1_1, .slice A1_2 l1_2.length c1_2]] w fun e w' => e = .returned (.bool r) ∧ Below w.heap.size w w' := by
 have hu35 := Tryd.underlying35; have HR0_2 := zA hr0_2; have HC0_2 := zA hc0_2; clear hr0_2 hc0_2; have HR1_2 := zA hr1_2; have HC1_2 := zA hc1_2; clear hr1_2 hc1_2; have HB := zA (Below.refl w.heap.size w); have H : (if a0_0.toList = a1_0.toList then (if a0_1.toList = a1_1.toList then ((laws_eqStringS.f k l0_2 l1_2).bind fun t27 => (if t27 = true then (some true) else (some false))) else (some false)) else (some false)) = some r := h; clear h
 by_cases c3 : a0_0.toList = a1_0.toList
 ·rw [if_pos c3] at H
  have c3b0 : (a0_0.toList == a1_0.toList) = true := beq_iff_eq.mpr c3; have c3b1 : (a0_0.toList != a1_0.toList) = false := bne_eq_false_iff_eq.mpr c3; clear c3
  by_cases c4 : a0_1.toList = a1_1.toList
  ·rw [if_pos c4] at H
   have c4b0 : (a0_1.toList == a1_1.toList) = true := beq_iff_eq.mpr c4; have c4b1 : (a0_1.toList != a1_1.toList) = false := bne_eq_false_iff_eq.mpr c4; clear c4; replace H := zAF H; obtain ⟨t27, A50, H⟩ := H; replace H : (if t27 = true then (some true) else (some false)) = some r := H; have A5 := zA A50; clear A50
   by_cases c6 : t27 = true
   ·subst c6
    have H1 : (some true) = some r := by rw [if_pos rfl] at H; exact H
    clear H; have H := H1; clear H1; obtain rfl := Option.some.inj H; go_enter Tryd.func16, Tryd.ntmps16; go_wp2_with (first | ((with_reducible refine gate_dst (N := 2) rfl ?_); refine box_event ?hg (N := 2) ?hd (cs := #[.string a0_0, .string a0_1, .slice A0_2 l0_2.length c0_2]) (t := 35) ?hr ?_; (case hd => rfl); (case hg => rfl); (case hr => first | (go_simp; done) | (go_simp; rfl)); intro gb28 hg w7 hbox hb; have n0_ := zA (zAD (by repeat (first | (with_reducible first | exact HB.out | apply zH | apply zF | apply zG) | exact HB.out)) hb); have n1_ := zA (hbox); have n2_ := zA ((by rw [hg]; exact (zAE (by repeat (first | (with_reducible first | exact HB.out | apply zH | apply zF | apply zG) | exact HB.out))) : w.heap.size ≤ gb28)); have n3_ := zA ((by rw [hg]; exact (zAE (by repeat (first | (with_reducible first | exact HB.out | apply zH | apply zF | apply zG) | exact HB.out))) : w.heap.size ≤ gb28)); clear HB; have HB := n0_; have BK28 := n1_; have GW28 := n2_; have GE28 := n3_; clear n0_ n1_ n2_ n3_; clear hb hbox hg) | ((with_reducible refine gate_dst (N := 3) rfl ?_); refine box_event ?hg (N := 3) ?hd (cs := #[.string a1_0, .string a1_1, .slice A1_2 l1_2.length c1_2]) (t := 35) ?hr ?_; (case hd => rfl); (case hg => rfl); (case hr => first | (go_simp; done) | (go_simp; rfl)); intro gb29 hg w8 hbox hb; have n0_ := zA (yE (g := gb28) (o := .cells #[.string a0_0, .string a0_1, .slice A0_2 l0_2.length c0_2] 35 (0, 0)) (by (with_reducible repeat (first | refine zL ?_ _ | refine zN ?_ | refine zM ?_ _)); exact BK28.out) hb); have n1_ := zA (zAD (by repeat (first | (with_reducible first | exact HB.out | apply zH | apply zF | apply zG | refine zI ?_ GE28.out) | exact HB.out)) hb); have n2_ := zA (hbox); have n3_ := zA ((by rw [hg]; exact (zAE (by repeat (first | (with_reducible first | exact HB.out | apply zH | apply zF | apply zG | refine zI ?_ GE28.out) | exact HB.out))) : w.heap.size ≤ gb29)); have n4_ := zA ((by rw [hg]; exact (zAE (by repeat (first | (with_reducible first | exact HB.out | apply zH | apply zF | apply zG | refine zI ?_ GE28.out) | exact HB.out))) : w.heap.size ≤ gb29)); have n5_ := zA ((by rw [hg]; exact zK (blk_lt (g := gb28) (o := .cells #[.string a0_0, .string a0_1, .slice A0_2 l0_2.length c0_2] 35 (0, 0)) (by (with_reducible repeat (first | refine zL ?_ _ | refine zN ?_ | refine zM ?_ _)); exact BK28.out)) : gb28 ≠ gb29)); have n6_ := zA ((by rw [hg]; exact Nat.ne_of_gt (blk_lt (g := gb28) (o := .cells #[.string a0_0, .string a0_1, .slice A0_2 l0_2.length c0_2] 35 (0, 0)) (by (with_reducible repeat (first | refine zL ?_ _ | refine zN ?_ | refine zM ?_ _)); exact BK28.out)) : gb29 ≠ gb28)); clear BK28; clear HB; have BK28 := n0_; have HB := n1_; have BK29 := n2_; have GW29 := n3_; have GE29 := n4_; have NB28_29 := n5_; have NB29_28 := n6_; clear n0_ n1_ n2_ n3_ n4_ n5_ n6_; clear hb hbox hg; have hnb9 := NB28_29.out; have hnc9 := NB29_28.out; have hcz10_0 : w8.cell? ⟨gb28, 0, none⟩ = some (.string a0_0) := (zP BK28.out 0).trans rfl; have hcz10_1 : w8.cell? ⟨gb28, 1, none⟩ = some (.string a0_1) := (zP BK28.out 1).trans rfl; have hcz10_2 : w8.cell? ⟨gb28, 2, none⟩ = some (.slice A0_2 l0_2.length c0_2) := (zP BK28.out 2).trans rfl; have hfz10_0 := zO BK28.out 0; have hfz10_1 := zO BK28.out 1; have hfz10_2 := zO BK28.out 2; have hcz11_0 : w8.cell? ⟨gb29, 0, none⟩ = some (.string a1_0) := (zP BK29.out 0).trans rfl; have hcz11_1 : w8.cell? ⟨gb29, 1, none⟩ = some (.string a1_1) := (zP BK29.out 1).trans rfl; have hcz11_2 : w8.cell? ⟨gb29, 2, none⟩ = some (.slice A1_2 l1_2.length c1_2) := (zP BK29.out 2).trans rfl; have hfz11_0 := zO BK29.out 0; have hfz11_1 := zO BK29.out 1; have hfz11_2 := zO BK29.out 2) | ((with_reducible refine yB (f := 45) rfl ?_); refine goesL_ (some 19) rfl rfl Tryd.func45 (by kernel_rfl) rfl #[.slice A0_2 l0_2.length c0_2, .slice A1_2 l1_2.length c1_2] rfl (by (try simp only [zAA, zAB, zAC]); first | done | rfl | (simp only [zZ, zY]; rfl)) ?_; (with_reducible refine (laws_eqStringS.calls k _ _ l0_2 _ _ l1_2 true _ ?side1 ?side2 ?side3 ?side4 A5.out).mono ?_); (case side1 => repeat (first | exact (Kd.C_below HR0_2.out HB.out) | (with_reducible refine zT ?_ _) | (with_reducible refine zU ?_ _) | (with_reducible refine zV ?_))); (case side2 => exact HC0_2.out); (case side3 => repeat (first | exact (Kd.C_below HR1_2.out HB.out) | (with_reducible refine zT ?_ _) | (with_reducible refine zU ?_ _) | (with_reducible refine zV ?_))); (case side4 => exact HC1_2.out); rintro e w' ⟨rfl, ⟨nd, rfl⟩⟩; refine ⟨_, rfl, ?_⟩)); go_ret; exact ⟨by first | rfl | (simp <;> rfl) | (simp [*] <;> rfl), by repeat (first | (with_reducible first | exact HB.out | apply zH | apply zF | apply zG | refine zI ?_ GE28.out | refine zI ?_ GE29.out) | exact HB.out)⟩
   ·replace c6 := Bool.eq_false_iff.mpr c6
    subst c6; have H1 : (some false) = some r := by rw [if_neg (show ¬ (false = true) by decide)] at H; exact H
    clear H; have H := H1; clear H1; obtain rfl := Option.some.inj H; go_enter Tryd.func16, Tryd.ntmps16; go_wp2_with (first | ((with_reducible refine gate_dst (N := 2) rfl ?_); refine box_event ?hg (N := 2) ?hd (cs := #[.string a0_0, .string a0_1, .slice A0_2 l0_2.length c0_2]) (t := 35) ?hr ?_; (case hd => rfl); (case hg => rfl); (case hr => first | (go_simp; done) | (go_simp; rfl)); intro gb28 hg w12 hbox hb; have n0_ := zA (zAD (by repeat (first | (with_reducible first | exact HB.out | apply zH | apply zF | apply zG) | exact HB.out)) hb); have n1_ := zA (hbox); have n2_ := zA ((by rw [hg]; exact (zAE (by repeat (first | (with_reducible first | exact HB.out | apply zH | apply zF | apply zG) | exact HB.out))) : w.heap.size ≤ gb28)); have n3_ := zA ((by rw [hg]; exact (zAE (by repeat (first | (with_reducible first | exact HB.out | apply zH | apply zF | apply zG) | exact HB.out))) : w.heap.size ≤ gb28)); clear HB; have HB := n0_; have BK28 := n1_; have GW28 := n2_; have GE28 := n3_; clear n0_ n1_ n2_ n3_; clear hb hbox hg) | ((with_reducible refine gate_dst (N := 3) rfl ?_); refine box_event ?hg (N := 3) ?hd (cs := #[.string a1_0, .string a1_1, .slice A1_2 l1_2.length c1_2]) (t := 35) ?hr ?_; (case hd => rfl); (case hg => rfl); (case hr => first | (go_simp; done) | (go_simp; rfl)); intro gb29 hg w13 hbox hb; have n0_ := zA (yE (g := gb28) (o := .cells #[.string a0_0, .string a0_1, .slice A0_2 l0_2.length c0_2] 35 (0, 0)) (by (with_reducible repeat (first | refine zL ?_ _ | refine zN ?_ | refine zM ?_ _)); exact BK28.out) hb); have n1_ := zA (zAD (by repeat (first | (with_reducible first | exact HB.out | apply zH | apply zF | apply zG | refine zI ?_ GE28.out) | exact HB.out)) hb); have n2_ := zA (hbox); have n3_ := zA ((by rw [hg]; exact (zAE (by repeat (first | (with_reducible first | exact HB.out | apply zH | apply zF | apply zG | refine zI ?_ GE28.out) | exact HB.out))) : w.heap.size ≤ gb29)); have n4_ := zA ((by rw [hg]; exact (zAE (by repeat (first | (with_reducible first | exact HB.out | apply zH | apply zF | apply zG | refine zI ?_ GE28.out) | exact HB.out))) : w.heap.size ≤ gb29)); have n5_ := zA ((by rw [hg]; exact zK (blk_lt (g := gb28) (o := .cells #[.string a0_0, .string a0_1, .slice A0_2 l0_2.length c0_2] 35 (0, 0)) (by (with_reducible repeat (first | refine zL ?_ _ | refine zN ?_ | refine zM ?_ _)); exact BK28.out)) : gb28 ≠ gb29)); have n6_ := zA ((by rw [hg]; exact Nat.ne_of_gt (blk_lt (g := gb28) (o := .cells #[.string a0_0, .string a0_1, .slice A0_2 l0_2.length c0_2] 35 (0, 0)) (by (with_reducible repeat (first | refine zL ?_ _ | refine zN ?_ | refine zM ?_ _)); exact BK28.out)) : gb29 ≠ gb28)); clear BK28; clear HB; have BK28 := n0_; have HB := n1_; have BK29 := n2_; have GW29 := n3_; have GE29 := n4_; have NB28_29 := n5_; have NB29_28 := n6_; clear n0_ n1_ n2_ n3_ n4_ n5_ n6_; clear hb hbox hg; have hnb14 := NB28_29.out; have hnc14 := NB29_28.out; have hcz15_0 : w13.cell? ⟨gb28, 0, none⟩ = some (.string a0_0) := (zP BK28.out 0).trans rfl; have hcz15_1 : w13.cell? ⟨gb28, 1, none⟩ = some (.string a0_1) := (zP BK28.out 1).trans rfl; have hcz15_2 : w13.cell? ⟨gb28, 2, none⟩ = some (.slice A0_2 l0_2.length c0_2) := (zP BK28.out 2).trans rfl; have hfz15_0 := zO BK28.out 0; have hfz15_1 := zO BK28.out 1; have hfz15_2 := zO BK28.out 2; have hcz16_0 : w13.cell? ⟨gb29, 0, none⟩ = some (.string a1_0) := (zP BK29.out 0).trans rfl; have hcz16_1 : w13.cell? ⟨gb29, 1, none⟩ = some (.string a1_1) := (zP BK29.out 1).trans rfl; have hcz16_2 : w13.cell? ⟨gb29, 2, none⟩ = some (.slice A1_2 l1_2.length c1_2) := (zP BK29.out 2).trans rfl; have hfz16_0 := zO BK29.out 0; have hfz16_1 := zO BK29.out 1; have hfz16_2 := zO BK29.out 2) | ((with_reducible refine yB (f := 45) rfl ?_); refine goesL_ (some 19) rfl rfl Tryd.func45 (by kernel_rfl) rfl #[.slice A0_2 l0_2.length c0_2, .slice A1_2 l1_2.length c1_2] rfl (by (try simp only [zAA, zAB, zAC]); first | done | rfl | (simp only [zZ, zY]; rfl)) ?_; (with_reducible refine (laws_eqStringS.calls k _ _ l0_2 _ _ l1_2 false _ ?side1 ?side2 ?side3 ?side4 A5.out).mono ?_); (case side1 => repeat (first | exact (Kd.C_below HR0_2.out HB.out) | (with_reducible refine zT ?_ _) | (with_reducible refine zU ?_ _) | (with_reducible refine zV ?_))); (case side2 => exact HC0_2.out); (case side3 => repeat (first | exact (Kd.C_below HR1_2.out HB.out) | (with_reducible refine zT ?_ _) | (with_reducible refine zU ?_ _) | (with_reducible refine zV ?_))); (case side4 => exact HC1_2.out); rintro e w' ⟨rfl, ⟨nd, rfl⟩⟩; refine ⟨_, rfl, ?_⟩)); go_ret; exact ⟨by first | rfl | (simp <;> rfl) | (simp [*] <;> rfl), by repeat (first | (with_reducible first | exact HB.out | apply zH | apply zF | apply zG | refine zI ?_ GE28.out | refine zI ?_ GE29.out) | exact HB.out)⟩
  ·rw [if_neg c4] at H
   have c4b0 : (a0_1.toList == a1_1.toList) = false := beq_eq_false_iff_ne.mpr c4; have c4b1 : (a0_1.toList != a1_1.toList) = true := bne_iff_ne.mpr c4; obtain rfl := Option.some.inj H; go_enter Tryd.func16, Tryd.ntmps16; go_wp2_with (first | ((with_reducible refine gate_dst (N := 2) rfl ?_); refine box_event ?hg (N := 2) ?hd (cs := #[.string a0_0, .string a0_1, .slice A0_2 l0_2.length c0_2]) (t := 35) ?hr ?_; (case hd => rfl); (case hg => rfl); (case hr => first | (go_simp; done) | (go_simp; rfl)); intro gb28 hg w17 hbox hb; have n0_ := zA (zAD (by repeat (first | (with_reducible first | exact HB.out | apply zH | apply zF | apply zG) | exact HB.out)) hb); have n1_ := zA (hbox); have n2_ := zA ((by rw [hg]; exact (zAE (by repeat (first | (with_reducible first | exact HB.out | apply zH | apply zF | apply zG) | exact HB.out))) : w.heap.size ≤ gb28)); have n3_ := zA ((by rw [hg]; exact (zAE (by repeat (first | (with_reducible first | exact HB.out | apply zH | apply zF | apply zG) | exact HB.out))) : w.heap.size ≤ gb28)); clear HB; have HB := n0_; have BK28 := n1_; have GW28 := n2_; have GE28 := n3_; clear n0_ n1_ n2_ n3_; clear hb hbox hg) | ((with_reducible refine gate_dst (N := 3) rfl ?_); refine box_event ?hg (N := 3) ?hd (cs := #[.string a1_0, .string a1_1, .slice A1_2 l1_2.length c1_2]) (t := 35) ?hr ?_; (case hd => rfl); (case hg => rfl); (case hr => first | (go_simp; done) | (go_simp; rfl)); intro gb29 hg w18 hbox hb; have n0_ := zA (yE (g := gb28) (o := .cells #[.string a0_0, .string a0_1, .slice A0_2 l0_2.length c0_2] 35 (0, 0)) (by (with_reducible repeat (first | refine zL ?_ _ | refine zN ?_ | refine zM ?_ _)); exact BK28.out) hb); have n1_ := zA (zAD (by repeat (first | (with_reducible first | exact HB.out | apply zH | apply zF | apply zG | refine zI ?_ GE28.out) | exact HB.out)) hb); have n2_ := zA (hbox); have n3_ := zA ((by rw [hg]; exact (zAE (by repeat (first | (with_reducible first | exact HB.out | apply zH | apply zF | apply zG | refine zI ?_ GE28.out) | exact HB.out))) : w.heap.size ≤ gb29)); have n4_ := zA ((by rw [hg]; exact (zAE (by repeat (first | (with_reducible first | exact HB.out | apply zH | apply zF | apply zG | refine zI ?_ GE28.out) | exact HB.out))) : w.heap.size ≤ gb29)); have n5_ := zA ((by rw [hg]; exact zK (blk_lt (g := gb28) (o := .cells #[.string a0_0, .string a0_1, .slice A0_2 l0_2.length c0_2] 35 (0, 0)) (by (with_reducible repeat (first | refine zL ?_ _ | refine zN ?_ | refine zM ?_ _)); exact BK28.out)) : gb28 ≠ gb29)); have n6_ := zA ((by rw [hg]; exact Nat.ne_of_gt (blk_lt (g := gb28) (o := .cells #[.string a0_0, .string a0_1, .slice A0_2 l0_2.length c0_2] 35 (0, 0)) (by (with_reducible repeat (first | refine zL ?_ _ | refine zN ?_ | refine zM ?_ _)); exact BK28.out)) : gb29 ≠ gb28)); clear BK28; clear HB; have BK28 := n0_; have HB := n1_; have BK29 := n2_; have GW29 := n3_; have GE29 := n4_; have NB28_29 := n5_; have NB29_28 := n6_; clear n0_ n1_ n2_ n3_ n4_ n5_ n6_; clear hb hbox hg; have hnb19 := NB28_29.out; have hnc19 := NB29_28.out; have hcz20_0 : w18.cell? ⟨gb28, 0, none⟩ = some (.string a0_0) := (zP BK28.out 0).trans rfl; have hcz20_1 : w18.cell? ⟨gb28, 1, none⟩ = some (.string a0_1) := (zP BK28.out 1).trans rfl; have hcz20_2 : w18.cell? ⟨gb28, 2, none⟩ = some (.slice A0_2 l0_2.length c0_2) := (zP BK28.out 2).trans rfl; have hfz20_0 := zO BK28.out 0; have hfz20_1 := zO BK28.out 1; have hfz20_2 := zO BK28.out 2; have hcz21_0 : w18.cell? ⟨gb29, 0, none⟩ = some (.string a1_0) := (zP BK29.out 0).trans rfl; have hcz21_1 : w18.cell? ⟨gb29, 1, none⟩ = some (.string a1_1) := (zP BK29.out 1).trans rfl; have hcz21_2 : w18.cell? ⟨gb29, 2, none⟩ = some (.slice A1_2 l1_2.length c1_2) := (zP BK29.out 2).trans rfl; have hfz21_0 := zO BK29.out 0; have hfz21_1 := zO BK29.out 1; have hfz21_2 := zO BK29.out 2)); go_ret; exact ⟨by first | rfl | (simp <;> rfl) | (simp [*] <;> rfl), by repeat (first | (with_reducible first | exact HB.out | apply zH | apply zF | apply zG | refine zI ?_ GE28.out | refine zI ?_ GE29.out) | exact HB.out)⟩
 ·rw [if_neg c3] at H
  have c3b0 : (a0_0.toList == a1_0.toList) = false := beq_eq_false_iff_ne.mpr c3; have c3b1 : (a0_0.toList != a1_0.toList) = true := bne_iff_ne.mpr c3; obtain rfl := Option.some.inj H; go_enter Tryd.func16, Tryd.ntmps16; go_wp2_with (first | ((with_reducible refine gate_dst (N := 2) rfl ?_); refine box_event ?hg (N := 2) ?hd (cs := #[.string a0_0, .string a0_1, .slice A0_2 l0_2.length c0_2]) (t := 35) ?hr ?_; (case hd => rfl); (case hg => rfl); (case hr => first | (go_simp; done) | (go_simp; rfl)); intro gb28 hg w22 hbox hb; have n0_ := zA (zAD (by repeat (first | (with_reducible first | exact HB.out | apply zH | apply zF | apply zG) | exact HB.out)) hb); have n1_ := zA (hbox); have n2_ := zA ((by rw [hg]; exact (zAE (by repeat (first | (with_reducible first | exact HB.out | apply zH | apply zF | apply zG) | exact HB.out))) : w.heap.size ≤ gb28)); have n3_ := zA ((by rw [hg]; exact (zAE (by repeat (first | (with_reducible first | exact HB.out | apply zH | apply zF | apply zG) | exact HB.out))) : w.heap.size ≤ gb28)); clear HB; have HB := n0_; have BK28 := n1_; have GW28 := n2_; have GE28 := n3_; clear n0_ n1_ n2_ n3_; clear hb hbox hg) | ((with_reducible refine gate_dst (N := 3) rfl ?_); refine box_event ?hg (N := 3) ?hd (cs := #[.string a1_0, .string a1_1, .slice A1_2 l1_2.length c1_2]) (t := 35) ?hr ?_; (case hd => rfl); (case hg => rfl); (case hr => first | (go_simp; done) | (go_simp; rfl)); intro gb29 hg w23 hbox hb; have n0_ := zA (yE (g := gb28) (o := .cells #[.string a0_0, .string a0_1, .slice A0_2 l0_2.length c0_2] 35 (0, 0)) (by (with_reducible repeat (first | refine zL ?_ _ | refine zN ?_ | refine zM ?_ _)); exact BK28.out) hb); have n1_ := zA (zAD (by repeat (first | (with_reducible first | exact HB.out | apply zH | apply zF | apply zG | refine zI ?_ GE28.out) | exact HB.out)) hb); have n2_ := zA (hbox); have n3_ := zA ((by rw [hg]; exact (zAE (by repeat (first | (with_reducible first | exact HB.out | apply zH | apply zF | apply zG | refine zI ?_ GE28.out) | exact HB.out))) : w.heap.size ≤ gb29)); have n4_ := zA ((by rw [hg]; exact (zAE (by repeat (first | (with_reducible first | exact HB.out | apply zH | apply zF | apply zG | refine zI ?_ GE28.out) | exact HB.out))) : w.heap.size ≤ gb29)); have n5_ := zA ((by rw [hg]; exact zK (blk_lt (g := gb28) (o := .cells #[.string a0_0, .string a0_1, .slice A0_2 l0_2.length c0_2] 35 (0, 0)) (by (with_reducible repeat (first | refine zL ?_ _ | refine zN ?_ | refine zM ?_ _)); exact BK28.out)) : gb28 ≠ gb29)); have n6_ := zA ((by rw [hg]; exact Nat.ne_of_gt (blk_lt (g := gb28) (o := .cells #[.string a0_0, .string a0_1, .slice A0_2 l0_2.length c0_2] 35 (0, 0)) (by (with_reducible repeat (first | refine zL ?_ _ | refine zN ?_ | refine zM ?_ _)); exact BK28.out)) : gb29 ≠ gb28)); clear BK28; clear HB; have BK28 := n0_; have HB := n1_; have BK29 := n2_; have GW29 := n3_; have GE29 := n4_; have NB28_29 := n5_; have NB29_28 := n6_; clear n0_ n1_ n2_ n3_ n4_ n5_ n6_; clear hb hbox hg; have hnb24 := NB28_29.out; have hnc24 := NB29_28.out; have hcz25_0 : w23.cell? ⟨gb28, 0, none⟩ = some (.string a0_0) := (zP BK28.out 0).trans rfl; have hcz25_1 : w23.cell? ⟨gb28, 1, none⟩ = some (.string a0_1) := (zP BK28.out 1).trans rfl; have hcz25_2 : w23.cell? ⟨gb28, 2, none⟩ = some (.slice A0_2 l0_2.length c0_2) := (zP BK28.out 2).trans rfl; have hfz25_0 := zO BK28.out 0; have hfz25_1 := zO BK28.out 1; have hfz25_2 := zO BK28.out 2; have hcz26_0 : w23.cell? ⟨gb29, 0, none⟩ = some (.string a1_0) := (zP BK29.out 0).trans rfl; have hcz26_1 : w23.cell? ⟨gb29, 1, none⟩ = some (.string a1_1) := (zP BK29.out 1).trans rfl; have hcz26_2 : w23.cell? ⟨gb29, 2, none⟩ = some (.slice A1_2 l1_2.length c1_2) := (zP BK29.out 2).trans rfl; have hfz26_0 := zO BK29.out 0; have hfz26_1 := zO BK29.out 1; have hfz26_2 := zO BK29.out 2)); go_ret; exact ⟨by first | rfl | (simp <;> rfl) | (simp [*] <;> rfl), by repeat (first | (with_reducible first | exact HB.out | apply zH | apply zF | apply zG | refine zI ?_ GE28.out | refine zI ?_ GE29.out) | exact HB.out)⟩
def laws_FnExactSealedText.j0 : Nat → Bool → ByteArray → ByteArray → List ByteArray → ByteArray → ByteArray → List ByteArray → Option (Bool)
 | 0, _, _, _, _, _, _, _ => none
 | k + 1, x38, x10, x11, x12, x13, x14, x15 => if x38 = true then (some false) else ((laws_toBlock.f k x10 x11 x12).bind fun bt16 => ((laws_eqBlock.f k x13 x14 x15 bt16.1 bt16.2.1 bt16.2.2).bind fun t17 => (if t17 = true then (some true) else (some false))))
def laws_FnExactSealedText.f (k : Nat) (a0 : Int) (a1_0 : ByteArray) (a1_1 : ByteArray) (l1_2 : List ByteArray) : Option (Bool) := (laws_szBlock.f k a1_0 a1_1 l1_2 1048576).bind fun t10 => (if t10 < 0 then (some true) else ((laws_toBlock.f k a1_0 a1_1 l1_2).bind fun bt11 => ((spec_SealedText.f k a0 bt11.1 bt11.2.1 bt11.2.2).bind fun bt12 => ((laws_toBlock.f k a1_0 a1_1 l1_2).bind fun bt13 => ((impl_SealedText.f k a0 bt13.1 bt13.2.1 bt13.2.2).bind fun bt14 => (if bt14.1.toList = bt12.1.toList then (laws_FnExactSealedText.j0 k (bt14.2 != bt12.2) a1_0 a1_1 l1_2 bt13.1 bt13.2.1 bt13.2.2) else (laws_FnExactSealedText.j0 k true a1_0 a1_1 l1_2 bt13.1 bt13.2.1 bt13.2.2)))))))
theorem laws_FnExactSealedText.calls (k : Nat) (a0 : Int) (a1_0 : ByteArray) (a1_1 : ByteArray) (A1_2 : Option Addr) (c1_2 : Nat) (l1_2 : List ByteArray) (r : Bool) (w : World) (hr1_2 : Kd.C Kd.string w A1_2 l1_2.length l1_2) (hc1_2 : l1_2.length ≤ c1_2) (h : laws_FnExactSealedText.f k a0 a1_0 a1_1 l1_2 = some r) :
  Calls Tryd.prog 4 #[.int .i64 a0, .agg #[.string a1_0, .string a1_1, .slice A1_2 l1_2.length c1_2]] w fun e w' => e = .returned (.bool r) ∧ Below w.heap.size w w' := by
 have hu32 := Tryd.underlying32; have hu35 := Tryd.underlying35; have HR1_2 := zA hr1_2; have HC1_2 := zA hc1_2; clear hr1_2 hc1_2; have HB := zA (Below.refl w.heap.size w); have H : ((laws_szBlock.f k a1_0 a1_1 l1_2 1048576).bind fun t40 => (if t40 < 0 then (some true) else ((laws_toBlock.f k a1_0 a1_1 l1_2).bind fun bt41 => ((spec_SealedText.f k a0 bt41.1 bt41.2.1 bt41.2.2).bind fun bt42 => ((laws_toBlock.f k a1_0 a1_1 l1_2).bind fun bt43 => ((impl_SealedText.f k a0 bt43.1 bt43.2.1 bt43.2.2).bind fun bt44 => (if bt44.1.toList = bt42.1.toList then (laws_FnExactSealedText.j0 k (bt44.2 != bt42.2) a1_0 a1_1 l1_2 bt43.1 bt43.2.1 bt43.2.2) else (laws_FnExactSealedText.j0 k true a1_0 a1_1 l1_2 bt43.1 bt43.2.1 bt43.2.2)))))))) = some r := h; clear h; replace H := zAF H; obtain ⟨t40, A30, H⟩ := H; replace H : (if t40 < 0 then (some true) else ((laws_toBlock.f k a1_0 a1_1 l1_2).bind fun bt41 => ((spec_SealedText.f k a0 bt41.1 bt41.2.1 bt41.2.2).bind fun bt42 => ((laws_toBlock.f k a1_0 a1_1 l1_2).bind fun bt43 => ((impl_SealedText.f k a0 bt43.1 bt43.2.1 bt43.2.2).bind fun bt44 => (if bt44.1.toList = bt42.1.toList then (laws_FnExactSealedText.j0 k (bt44.2 != bt42.2) a1_0 a1_1 l1_2 bt43.1 bt43.2.1 bt43.2.2) else (laws_FnExactSealedText.j0 k true a1_0 a1_1 l1_2 bt43.1 bt43.2.1 bt43.2.2))))))) = some r := H; have A3 := zA A30; clear A30
 by_cases c4 : t40 < 0
 ·rw [if_pos c4] at H
  have c4b0 : decide (t40 < 0) = true := zX c4; clear c4; obtain rfl := Option.some.inj H; go_enter Tryd.func4, Tryd.ntmps4; go_wp2_with (first | ((with_reducible refine gate_dst (N := 3) rfl ?_); refine box_event ?hg (N := 3) ?hd (cs := #[.string a1_0, .string a1_1, .slice A1_2 l1_2.length c1_2]) (t := 32) ?hr ?_; (case hd => rfl); (case hg => rfl); (case hr => first | (go_simp; done) | (go_simp; rfl)); intro gb45 hg w5 hbox hb; have n0_ := zA (zAD (by repeat (first | (with_reducible first | exact HB.out | apply zH | apply zF | apply zG) | exact HB.out)) hb); have n1_ := zA (hbox); have n2_ := zA ((by rw [hg]; exact (zAE (by repeat (first | (with_reducible first | exact HB.out | apply zH | apply zF | apply zG) | exact HB.out))) : w.heap.size ≤ gb45)); have n3_ := zA ((by rw [hg]; exact (zAE (by repeat (first | (with_reducible first | exact HB.out | apply zH | apply zF | apply zG) | exact HB.out))) : w.heap.size ≤ gb45)); clear HB; have HB := n0_; have BK45 := n1_; have GW45 := n2_; have GE45 := n3_; clear n0_ n1_ n2_ n3_; clear hb hbox hg; have hcz6_0 : w5.cell? ⟨gb45, 0, none⟩ = some (.string a1_0) := (zP BK45.out 0).trans rfl; have hcz6_1 : w5.cell? ⟨gb45, 1, none⟩ = some (.string a1_1) := (zP BK45.out 1).trans rfl; have hcz6_2 : w5.cell? ⟨gb45, 2, none⟩ = some (.slice A1_2 l1_2.length c1_2) := (zP BK45.out 2).trans rfl; have hfz6_0 := zO BK45.out 0; have hfz6_1 := zO BK45.out 1; have hfz6_2 := zO BK45.out 2) | ((with_reducible refine yB (f := 12) rfl ?_); refine goesL_ (some 13) rfl rfl Tryd.func12 (by kernel_rfl) rfl #[.agg #[.string a1_0, .string a1_1, .slice A1_2 l1_2.length c1_2], .int .i64 1048576] rfl (by (try simp only [zAA, zAB, zAC]); first | done | rfl | (simp only [zZ, zY]; rfl)) ?_; (with_reducible refine (laws_szBlock.calls k a1_0 a1_1 _ _ l1_2 1048576 t40 _ ?side1 ?side2 A3.out).mono ?_); (case side1 => repeat (first | exact (Kd.C_below HR1_2.out HB.out) | (with_reducible refine zT ?_ _) | (with_reducible refine zU ?_ _) | (with_reducible refine zV ?_))); (case side2 => exact HC1_2.out); rintro e w7 ⟨rfl, hb⟩; refine ⟨_, rfl, ?_⟩; have n0_ := zA (yE (g := gb45) (o := .cells #[.string a1_0, .string a1_1, .slice A1_2 l1_2.length c1_2] 32 (0, 0)) (by (with_reducible repeat (first | refine zL ?_ _ | refine zN ?_ | refine zM ?_ _)); exact BK45.out) hb); have n1_ := zA (zAD (by repeat (first | (with_reducible first | exact HB.out | apply zH | apply zF | apply zG | refine zI ?_ GE45.out) | exact HB.out)) hb); clear BK45; clear HB; have BK45 := n0_; have HB := n1_; clear n0_ n1_; (try clear hb))); go_ret; exact ⟨by first | rfl | (simp <;> rfl) | (simp [*] <;> rfl), by repeat (first | (with_reducible first | exact HB.out | apply zH | apply zF | apply zG | refine zI ?_ GE45.out) | exact HB.out)⟩
 ·rw [if_neg c4] at H
  have c4b0 : decide (t40 < 0) = false := decide_eq_false c4; clear c4; replace H := zAF H; obtain ⟨⟨t41, t46, t47⟩, A80, H⟩ := H; replace H : ((spec_SealedText.f k a0 t41 t46 t47).bind fun bt42 => ((laws_toBlock.f k a1_0 a1_1 l1_2).bind fun bt43 => ((impl_SealedText.f k a0 bt43.1 bt43.2.1 bt43.2.2).bind fun bt44 => (if bt44.1.toList = bt42.1.toList then (laws_FnExactSealedText.j0 k (bt44.2 != bt42.2) a1_0 a1_1 l1_2 bt43.1 bt43.2.1 bt43.2.2) else (laws_FnExactSealedText.j0 k true a1_0 a1_1 l1_2 bt43.1 bt43.2.1 bt43.2.2))))) = some r := H; have A8 := zA A80; clear A80; replace H := zAF H; obtain ⟨⟨t42, t48⟩, A90, H⟩ := H; replace H : ((laws_toBlock.f k a1_0 a1_1 l1_2).bind fun bt43 => ((impl_SealedText.f k a0 bt43.1 bt43.2.1 bt43.2.2).bind fun bt44 => (if bt44.1.toList = t42.toList then (laws_FnExactSealedText.j0 k (bt44.2 != t48) a1_0 a1_1 l1_2 bt43.1 bt43.2.1 bt43.2.2) else (laws_FnExactSealedText.j0 k true a1_0 a1_1 l1_2 bt43.1 bt43.2.1 bt43.2.2)))) = some r := H; have A9 := zA A90; clear A90; replace H := zAF H; obtain ⟨⟨t43, t49, t50⟩, A51, H⟩ := H; replace H : ((impl_SealedText.f k a0 t43 t49 t50).bind fun bt44 => (if bt44.1.toList = t42.toList then (laws_FnExactSealedText.j0 k (bt44.2 != t48) a1_0 a1_1 l1_2 t43 t49 t50) else (laws_FnExactSealedText.j0 k true a1_0 a1_1 l1_2 t43 t49 t50))) = some r := H; have A10 := zA A51; clear A51; replace H := zAF H; obtain ⟨⟨t44, t52⟩, A53, H⟩ := H; replace H : (if t44.toList = t42.toList then (laws_FnExactSealedText.j0 k (t52 != t48) a1_0 a1_1 l1_2 t43 t49 t50) else (laws_FnExactSealedText.j0 k true a1_0 a1_1 l1_2 t43 t49 t50)) = some r := H; have A11 := zA A53; clear A53; have HC12 := zA H; clear H; go_enter Tryd.func4, Tryd.ntmps4; go_upto_region 8 with (first | ((with_reducible refine gate_dst (N := 3) rfl ?_); refine box_event ?hg (N := 3) ?hd (cs := #[.string a1_0, .string a1_1, .slice A1_2 l1_2.length c1_2]) (t := 32) ?hr ?_; (case hd => rfl); (case hg => rfl); (case hr => first | (go_simp; done) | (go_simp; rfl)); intro gb45 hg w13 hbox hb; have n0_ := zA (zAD (by repeat (first | (with_reducible first | exact HB.out | apply zH | apply zF | apply zG) | exact HB.out)) hb); have n1_ := zA (hbox); have n2_ := zA ((by rw [hg]; exact (zAE (by repeat (first | (with_reducible first | exact HB.out | apply zH | apply zF | apply zG) | exact HB.out))) : w.heap.size ≤ gb45)); have n3_ := zA ((by rw [hg]; exact (zAE (by repeat (first | (with_reducible first | exact HB.out | apply zH | apply zF | apply zG) | exact HB.out))) : w.heap.size ≤ gb45)); clear HB; have HB := n0_; have BK45 := n1_; have GW45 := n2_; have GE45 := n3_; clear n0_ n1_ n2_ n3_; clear hb hbox hg; have hcz14_0 : w13.cell? ⟨gb45, 0, none⟩ = some (.string a1_0) := (zP BK45.out 0).trans rfl; have hcz14_1 : w13.cell? ⟨gb45, 1, none⟩ = some (.string a1_1) := (zP BK45.out 1).trans rfl; have hcz14_2 : w13.cell? ⟨gb45, 2, none⟩ = some (.slice A1_2 l1_2.length c1_2) := (zP BK45.out 2).trans rfl; have hfz14_0 := zO BK45.out 0; have hfz14_1 := zO BK45.out 1; have hfz14_2 := zO BK45.out 2) | ((with_reducible refine yB (f := 12) rfl ?_); refine goesL_ (some 13) rfl rfl Tryd.func12 (by kernel_rfl) rfl #[.agg #[.string a1_0, .string a1_1, .slice A1_2 l1_2.length c1_2], .int .i64 1048576] rfl (by (try simp only [zAA, zAB, zAC]); first | done | rfl | (simp only [zZ, zY]; rfl)) ?_; (with_reducible refine (laws_szBlock.calls k a1_0 a1_1 _ _ l1_2 1048576 t40 _ ?side1 ?side2 A3.out).mono ?_); (case side1 => repeat (first | exact (Kd.C_below HR1_2.out HB.out) | (with_reducible refine zT ?_ _) | (with_reducible refine zU ?_ _) | (with_reducible refine zV ?_))); (case side2 => exact HC1_2.out); rintro e w15 ⟨rfl, hb⟩; refine ⟨_, rfl, ?_⟩; have n0_ := zA (yE (g := gb45) (o := .cells #[.string a1_0, .string a1_1, .slice A1_2 l1_2.length c1_2] 32 (0, 0)) (by (with_reducible repeat (first | refine zL ?_ _ | refine zN ?_ | refine zM ?_ _)); exact BK45.out) hb); have n1_ := zA (zAD (by repeat (first | (with_reducible first | exact HB.out | apply zH | apply zF | apply zG | refine zI ?_ GE45.out) | exact HB.out)) hb); clear BK45; clear HB; have BK45 := n0_; have HB := n1_; clear n0_ n1_; (try clear hb); have hcz16_0 : w15.cell? ⟨gb45, 0, none⟩ = some (.string a1_0) := (zP BK45.out 0).trans rfl; have hcz16_1 : w15.cell? ⟨gb45, 1, none⟩ = some (.string a1_1) := (zP BK45.out 1).trans rfl; have hcz16_2 : w15.cell? ⟨gb45, 2, none⟩ = some (.slice A1_2 l1_2.length c1_2) := (zP BK45.out 2).trans rfl; have hfz16_0 := zO BK45.out 0; have hfz16_1 := zO BK45.out 1; have hfz16_2 := zO BK45.out 2) | ((with_reducible refine yB (f := 14) rfl ?_); refine goesL_ (some 19) rfl rfl Tryd.func14 (by kernel_rfl) rfl #[.agg #[.string a1_0, .string a1_1, .slice A1_2 l1_2.length c1_2]] rfl (by (try simp only [zAA, zAB, zAC]); first | done | rfl | (simp only [zZ, zY]; rfl)) ?_; (with_reducible refine (laws_toBlock.calls k a1_0 a1_1 _ _ l1_2 t41 t46 t47 _ ?side1 ?side2 A8.out).mono ?_); (case side1 => repeat (first | exact (Kd.C_below HR1_2.out HB.out) | (with_reducible refine zT ?_ _) | (with_reducible refine zU ?_ _) | (with_reducible refine zV ?_))); (case side2 => exact HC1_2.out); rintro e w17 ⟨v54, rfl, ho0, hb⟩; refine ⟨_, rfl, ?_⟩; have n0_ := zA (Kd.R_lower ho0 (zAE (by repeat (first | (with_reducible first | exact HB.out | apply zH | apply zF | apply zG | refine zI ?_ GE45.out) | exact HB.out)))); have n1_ := zA (yE (g := gb45) (o := .cells #[.string a1_0, .string a1_1, .slice A1_2 l1_2.length c1_2] 32 (0, 0)) (by (with_reducible repeat (first | refine zL ?_ _ | refine zN ?_ | refine zM ?_ _)); exact BK45.out) hb); have n2_ := zA (zAD (by repeat (first | (with_reducible first | exact HB.out | apply zH | apply zF | apply zG | refine zI ?_ GE45.out) | exact HB.out)) hb); clear BK45; clear HB; have HO55 := n0_; have BK45 := n1_; have HB := n2_; clear n0_ n1_ n2_; (try clear hb); (try clear ho0); obtain ⟨Ao18, co18, eo18⟩ := Kd.R_slice HO55.out; subst eo18) | ((with_reducible refine yB (f := 13) rfl ?_); refine goesL_ (some 20) rfl rfl Tryd.func13 (by kernel_rfl) rfl #[.int .i64 a0, .agg #[.string t41, .string t46, .slice Ao18 t47.length co18]] rfl (by (try simp only [zAA, zAB, zAC]); first | done | rfl | (simp only [zZ, zY]; rfl)) ?_; (with_reducible refine (spec_SealedText.calls k a0 t41 t46 _ _ t47 t42 t48 _ ?side1 ?side2 A9.out).mono ?_); (case side1 => repeat (first | exact (yD HO55.out).2.2 | (with_reducible refine zT ?_ _) | (with_reducible refine zU ?_ _) | (with_reducible refine zV ?_))); (case side2 => exact (yD HO55.out).2.1); rintro e w19 ⟨rfl, hb⟩; refine ⟨_, rfl, ?_⟩; have n0_ := zA (Kd.R_below (by (with_reducible repeat (first | apply zQ | apply zR | apply zS)); exact HO55.out) hb); have n1_ := zA (yE (g := gb45) (o := .cells #[.string a1_0, .string a1_1, .slice A1_2 l1_2.length c1_2] 32 (0, 0)) (by (with_reducible repeat (first | refine zL ?_ _ | refine zN ?_ | refine zM ?_ _)); exact BK45.out) hb); have n2_ := zA (zAD (by repeat (first | (with_reducible first | exact HB.out | apply zH | apply zF | apply zG | refine zI ?_ GE45.out) | exact HB.out)) hb); clear HO55; clear BK45; clear HB; have HO55 := n0_; have BK45 := n1_; have HB := n2_; clear n0_ n1_ n2_; (try clear hb); have hcz20_0 : w19.cell? ⟨gb45, 0, none⟩ = some (.string a1_0) := (zP BK45.out 0).trans rfl; have hcz20_1 : w19.cell? ⟨gb45, 1, none⟩ = some (.string a1_1) := (zP BK45.out 1).trans rfl; have hcz20_2 : w19.cell? ⟨gb45, 2, none⟩ = some (.slice A1_2 l1_2.length c1_2) := (zP BK45.out 2).trans rfl; have hfz20_0 := zO BK45.out 0; have hfz20_1 := zO BK45.out 1; have hfz20_2 := zO BK45.out 2) | ((with_reducible refine yB (f := 14) rfl ?_); refine goesL_ (some 24) rfl rfl Tryd.func14 (by kernel_rfl) rfl #[.agg #[.string a1_0, .string a1_1, .slice A1_2 l1_2.length c1_2]] rfl (by (try simp only [zAA, zAB, zAC]); first | done | rfl | (simp only [zZ, zY]; rfl)) ?_; (with_reducible refine (laws_toBlock.calls k a1_0 a1_1 _ _ l1_2 t43 t49 t50 _ ?side1 ?side2 A10.out).mono ?_); (case side1 => repeat (first | exact (Kd.C_below HR1_2.out HB.out) | (with_reducible refine zT ?_ _) | (with_reducible refine zU ?_ _) | (with_reducible refine zV ?_))); (case side2 => exact HC1_2.out); rintro e w21 ⟨v56, rfl, ho0, hb⟩; refine ⟨_, rfl, ?_⟩; have n0_ := zA (yJ (by (with_reducible repeat (first | apply zQ | apply zR | apply zS)); exact HO55.out) (Kd.R_base ho0) hb); have n1_ := zA (Kd.R_lower (yK ho0 (Kd.R_lt (by (with_reducible repeat (first | apply zQ | apply zR | apply zS)); exact HO55.out))) (zAE (by repeat (first | (with_reducible first | exact HB.out | apply zH | apply zF | apply zG | refine zI ?_ GE45.out) | exact HB.out)))); have n2_ := zA (yE (g := gb45) (o := .cells #[.string a1_0, .string a1_1, .slice A1_2 l1_2.length c1_2] 32 (0, 0)) (by (with_reducible repeat (first | refine zL ?_ _ | refine zN ?_ | refine zM ?_ _)); exact BK45.out) hb); have n3_ := zA (zAD (by repeat (first | (with_reducible first | exact HB.out | apply zH | apply zF | apply zG | refine zI ?_ GE45.out) | exact HB.out)) hb); clear HO55; clear BK45; clear HB; have HO55 := n0_; have HO57 := n1_; have BK45 := n2_; have HB := n3_; clear n0_ n1_ n2_ n3_; (try clear hb); (try clear ho0)) | ((with_reducible refine gate_dst (N := 8) rfl ?_); refine box_event ?hg (N := 8) ?hd (cs := #[.string (⟨#[]⟩ : ByteArray), .string (⟨#[]⟩ : ByteArray), .slice none 0 0]) (t := 35) ?hr ?_; (case hd => rfl); (case hg => rfl); (case hr => first | (go_simp; done) | (go_simp; rfl)); intro gb58 hg w22 hbox hb; have n0_ := zA (Kd.R_below (by (with_reducible repeat (first | apply zQ | apply zR | apply zS)); exact HO55.out) hb); have n1_ := zA (Kd.R_below (by (with_reducible repeat (first | apply zQ | apply zR | apply zS)); exact HO57.out) hb); have n2_ := zA (yE (g := gb45) (o := .cells #[.string a1_0, .string a1_1, .slice A1_2 l1_2.length c1_2] 32 (0, 0)) (by (with_reducible repeat (first | refine zL ?_ _ | refine zN ?_ | refine zM ?_ _)); exact BK45.out) hb); have n3_ := zA (zAD (by repeat (first | (with_reducible first | exact HB.out | apply zH | apply zF | apply zG | refine zI ?_ GE45.out) | exact HB.out)) hb); have n4_ := zA (hbox); have n5_ := zA ((by rw [hg]; exact (zAE (by repeat (first | (with_reducible first | exact HB.out | apply zH | apply zF | apply zG | refine zI ?_ GE45.out) | exact HB.out))) : w.heap.size ≤ gb58)); have n6_ := zA ((by rw [hg]; exact (zAE (by repeat (first | (with_reducible first | exact HB.out | apply zH | apply zF | apply zG | refine zI ?_ GE45.out) | exact HB.out))) : w.heap.size ≤ gb58)); have n7_ := zA ((by rw [hg]; exact zK (blk_lt (g := gb45) (o := .cells #[.string a1_0, .string a1_1, .slice A1_2 l1_2.length c1_2] 32 (0, 0)) (by (with_reducible repeat (first | refine zL ?_ _ | refine zN ?_ | refine zM ?_ _)); exact BK45.out)) : gb45 ≠ gb58)); have n8_ := zA ((by rw [hg]; exact Nat.ne_of_gt (blk_lt (g := gb45) (o := .cells #[.string a1_0, .string a1_1, .slice A1_2 l1_2.length c1_2] 32 (0, 0)) (by (with_reducible repeat (first | refine zL ?_ _ | refine zN ?_ | refine zM ?_ _)); exact BK45.out)) : gb58 ≠ gb45)); clear HO55; clear HO57; clear BK45; clear HB; have HO55 := n0_; have HO57 := n1_; have BK45 := n2_; have HB := n3_; have BK58 := n4_; have GW58 := n5_; have GE58 := n6_; have NB45_58 := n7_; have NB58_45 := n8_; clear n0_ n1_ n2_ n3_ n4_ n5_ n6_ n7_ n8_; clear hb hbox hg; have hnb23 := NB58_45.out; have hnc23 := NB45_58.out; have hcz24_0 : w22.cell? ⟨gb58, 0, none⟩ = some (.string (⟨#[]⟩ : ByteArray)) := (zP BK58.out 0).trans rfl; have hcz24_1 : w22.cell? ⟨gb58, 1, none⟩ = some (.string (⟨#[]⟩ : ByteArray)) := (zP BK58.out 1).trans rfl; have hcz24_2 : w22.cell? ⟨gb58, 2, none⟩ = some (.slice none 0 0) := (zP BK58.out 2).trans rfl; have hfz24_0 := zO BK58.out 0; have hfz24_1 := zO BK58.out 1; have hfz24_2 := zO BK58.out 2; obtain ⟨Ao25, co25, eo25⟩ := Kd.R_slice HO57.out; subst eo25) | ((with_reducible refine yB (f := 15) rfl ?_); refine goesL_ (some 28) rfl rfl Tryd.func15 (by kernel_rfl) rfl #[.int .i64 a0, .agg #[.string t43, .string t49, .slice Ao25 t50.length co25]] rfl (by (try simp only [zAA, zAB, zAC]); first | done | rfl | (simp only [zZ, zY]; rfl)) ?_; (with_reducible refine (impl_SealedText.calls k a0 t43 t49 _ _ t50 t44 t52 _ ?side1 ?side2 A11.out).mono ?_); (case side1 => refine (yD (e := 9) (base := w.heap.size) (ok := fun k_ => (True ∧ some k_ ≠ (.slice Ao18 t47.length co18 : Value).ownBlock)) (n := t50.length) (c := co25) ?_).2.2; exact (by (with_reducible repeat (first | apply zQ | apply zR | apply zS)); exact (yC (Kd.R_far (p := ⟨gb58, 2, none⟩) (Kd.R_far (p := ⟨gb58, 1, none⟩) (Kd.R_far (p := ⟨gb58, 0, none⟩) (Kd.R_types HO57.out BK58.out (by decide)) (fun _ hk => hk.2) (.string t43)) (fun _ hk => hk.2) (.string t49)) (fun _ hk => hk.2) (.slice Ao25 t50.length co25)) (fun _ h_ => h_.1)))); (case side2 => exact (yD HO57.out).2.1); rintro e w26 ⟨rfl, hb⟩; refine ⟨_, rfl, ?_⟩; have n0_ := zA (Kd.R_below (by (with_reducible repeat (first | apply zQ | apply zR | apply zS)); exact (yC (Kd.R_far (p := ⟨gb58, 2, none⟩) (Kd.R_far (p := ⟨gb58, 1, none⟩) (Kd.R_far (p := ⟨gb58, 0, none⟩) (Kd.R_types HO55.out BK58.out (by decide)) (fun _ hk => hk.2) (.string t43)) (fun _ hk => hk.2) (.string t49)) (fun _ hk => hk.2) (.slice Ao25 t50.length co25)) (fun _ h_ => h_.1))) hb); have n1_ := zA (Kd.R_below (by (with_reducible repeat (first | apply zQ | apply zR | apply zS)); exact (yC (Kd.R_far (p := ⟨gb58, 2, none⟩) (Kd.R_far (p := ⟨gb58, 1, none⟩) (Kd.R_far (p := ⟨gb58, 0, none⟩) (Kd.R_types HO57.out BK58.out (by decide)) (fun _ hk => hk.2) (.string t43)) (fun _ hk => hk.2) (.string t49)) (fun _ hk => hk.2) (.slice Ao25 t50.length co25)) (fun _ h_ => h_.1))) hb); have n2_ := zA (yE (g := gb45) (o := .cells #[.string a1_0, .string a1_1, .slice A1_2 l1_2.length c1_2] 32 (0, 0)) (by (with_reducible repeat (first | refine zL ?_ _ | refine zN ?_ | refine zM ?_ _)); refine blk_far ?_ NB45_58.out _; (with_reducible repeat (first | refine zL ?_ _ | refine zN ?_ | refine zM ?_ _)); refine blk_far ?_ NB45_58.out _; (with_reducible repeat (first | refine zL ?_ _ | refine zN ?_ | refine zM ?_ _)); refine blk_far ?_ NB45_58.out _; (with_reducible repeat (first | refine zL ?_ _ | refine zN ?_ | refine zM ?_ _)); exact BK45.out) hb); have n3_ := zA (yE (g := gb58) (o := .cells #[.string t43, .string t49, .slice Ao25 t50.length co25] 35 (0, 0)) (by (with_reducible repeat (first | refine zL ?_ _ | refine zN ?_ | refine zM ?_ _)); refine blk_put (cs := #[.string t43, .string t49, .slice none 0 0]) ?_ 2 _ rfl; (with_reducible repeat (first | refine zL ?_ _ | refine zN ?_ | refine zM ?_ _)); refine blk_put (cs := #[.string t43, .string (⟨#[]⟩ : ByteArray), .slice none 0 0]) ?_ 1 _ rfl; (with_reducible repeat (first | refine zL ?_ _ | refine zN ?_ | refine zM ?_ _)); refine blk_put (cs := #[.string (⟨#[]⟩ : ByteArray), .string (⟨#[]⟩ : ByteArray), .slice none 0 0]) ?_ 0 _ rfl; (with_reducible repeat (first | refine zL ?_ _ | refine zN ?_ | refine zM ?_ _)); exact BK58.out) hb); have n4_ := zA (zAD (by repeat (first | (with_reducible first | exact HB.out | apply zH | apply zF | apply zG | refine zI ?_ GE45.out | refine zI ?_ GE58.out) | exact HB.out)) hb); clear HO55; clear HO57; clear BK45; clear BK58; clear HB; have HO55 := n0_; have HO57 := n1_; have BK45 := n2_; have BK58 := n3_; have HB := n4_; clear n0_ n1_ n2_ n3_ n4_; (try clear hb); (try clear hk)))
  (try simp only [Act.put, zC, zD, zE]); go_cut [38] (fun v38 wc => ∃ (kq : Nat) (x38_11 : Bool), v38 = .bool x38_11 ∧ Aside0 (laws_FnExactSealedText.j0 kq x38_11 a1_0 a1_1 l1_2 t43 t49 t50 = some r) ∧ Aside0 (kq ≤ k) ∧ Aside0 (Kd.R Kd.string 9 wc w.heap.size (fun _ => True) (.slice Ao25 t50.length co25) t50) ∧ Aside0 (wc.heap[gb45]? = some (.cells #[.string a1_0, .string a1_1, (.slice A1_2 l1_2.length c1_2)] 32 (0, 0))) ∧ Aside0 (wc.heap[gb58]? = some (.cells #[.string t43, .string t49, (.slice Ao25 t50.length co25)] 35 (0, 0))) ∧ Aside0 (Below w.heap.size w wc))
  case first =>
   have H := HC12.out; clear HC12
   by_cases c27 : t44.toList = t42.toList
   ·rw [if_pos c27] at H
    have c27b0 : (t44.toList == t42.toList) = true := beq_iff_eq.mpr c27; have c27b1 : (t44.toList != t42.toList) = false := bne_eq_false_iff_eq.mpr c27; clear c27; (first | rw [c27b0] | (simp only [i64_w, i32_w]; rw [c27b0]) | skip); have H' := zA H; clear H; go_wp2; go_meet
    case rel => exact ⟨_, ((t52 != t48)), (by first | rfl | (simp; done) | (simp [*]; done) | (simp [bne]; done)), H', ⟨by first | omega | exact Nat.le_refl _⟩, ⟨by (with_reducible repeat (first | apply zQ | apply zR | apply zS)); exact yC HO57.out (fun _ hk => trivial)⟩, ⟨by (with_reducible repeat (first | refine zL ?_ _ | refine zN ?_ | refine zM ?_ _)); exact BK45.out⟩, ⟨by (with_reducible repeat (first | refine zL ?_ _ | refine zN ?_ | refine zM ?_ _)); exact BK58.out⟩, ⟨by repeat (first | (with_reducible first | exact HB.out | apply zH | apply zF | apply zG | refine zI ?_ GE45.out | refine zI ?_ GE58.out) | exact HB.out)⟩⟩
   ·rw [if_neg c27] at H
    have c27b0 : (t44.toList == t42.toList) = false := beq_eq_false_iff_ne.mpr c27; have c27b1 : (t44.toList != t42.toList) = true := bne_iff_ne.mpr c27; (first | rw [c27b0] | (simp only [i64_w, i32_w]; rw [c27b0]) | skip); have H' := zA H; clear H; go_wp2; go_meet
    case rel => exact ⟨_, (true), (by first | rfl | (simp; done) | (simp [*]; done) | (simp [bne]; done)), H', ⟨by first | omega | exact Nat.le_refl _⟩, ⟨by (with_reducible repeat (first | apply zQ | apply zR | apply zS)); exact yC HO57.out (fun _ hk => trivial)⟩, ⟨by (with_reducible repeat (first | refine zL ?_ _ | refine zN ?_ | refine zM ?_ _)); exact BK45.out⟩, ⟨by (with_reducible repeat (first | refine zL ?_ _ | refine zN ?_ | refine zM ?_ _)); exact BK58.out⟩, ⟨by repeat (first | (with_reducible first | exact HB.out | apply zH | apply zF | apply zG | refine zI ?_ GE45.out | refine zI ?_ GE58.out) | exact HB.out)⟩⟩
  case rest =>
   clear HC12
   try clear c1
   try clear c2
   try clear p2
   try clear c4
   try clear c4b0
   try clear c12
   try clear c13
   try clear c14
   try clear c15
   try clear c23
   try clear c27
   try clear c27b0
   try clear c27b1
   try clear hcz14_0
   try clear hcz14_1
   try clear hcz14_2
   try clear hcz16_0
   try clear hcz16_1
   try clear hcz16_2
   try clear hcz20_0
   try clear hcz20_1
   try clear hcz20_2
   try clear hcz24_0
   try clear hcz24_1
   try clear hcz24_2
   try clear hcz6_0
   try clear hcz6_1
   try clear hcz6_2
   try clear hfz14_0
   try clear hfz14_1
   try clear hfz14_2
   try clear hfz16_0
   try clear hfz16_1
   try clear hfz16_2
   try clear hfz20_0
   try clear hfz20_1
   try clear hfz20_2
   try clear hfz24_0
   try clear hfz24_1
   try clear hfz24_2
   try clear hfz6_0
   try clear hfz6_1
   try clear hfz6_2
   obtain ⟨kq, x38_11, rfl, HA, HJ11, HO_272002, BK45, BK58, HB⟩ := hcut
   cases kq with
   | zero => exact absurd HA.out (by simp [laws_FnExactSealedText.j0])
   | succ kj11 =>
    have H := HA.out; clear HA; simp only [laws_FnExactSealedText.j0] at H
    by_cases c28 : x38_11 = true
    ·subst c28
     have H1 : (some false) = some r := by rw [if_pos rfl] at H; exact H
     clear H; have H := H1; clear H1; obtain rfl := Option.some.inj H; go_wp2; go_ret; exact ⟨by first | rfl | (simp <;> rfl) | (simp [*] <;> rfl), by repeat (first | (with_reducible first | exact HB.out | apply zH | apply zF | apply zG | refine zI ?_ GE45.out | refine zI ?_ GE58.out) | exact HB.out)⟩
    ·replace c28 := Bool.eq_false_iff.mpr c28
     subst c28; have H1 : ((laws_toBlock.f kj11 a1_0 a1_1 l1_2).bind fun bt59 => ((laws_eqBlock.f kj11 t43 t49 t50 bt59.1 bt59.2.1 bt59.2.2).bind fun t60 => (if t60 = true then (some true) else (some false)))) = some r := by rw [if_neg (show ¬ (false = true) by decide)] at H; exact H
     clear H; have H := H1; clear H1; replace H := zAF H; obtain ⟨⟨t59, t61, t62⟩, A63, H⟩ := H; replace H : ((laws_eqBlock.f kj11 t43 t49 t50 t59 t61 t62).bind fun t60 => (if t60 = true then (some true) else (some false))) = some r := H; have A29 := zA A63; clear A63; replace H := zAF H; obtain ⟨t60, A65, H⟩ := H; replace H : (if t60 = true then (some true) else (some false)) = some r := H; have A30 := zA A65; clear A65
     by_cases c31 : t60 = true
     ·subst c31
      have H1 : (some true) = some r := by rw [if_pos rfl] at H; exact H
      clear H; have H := H1; clear H1; obtain rfl := Option.some.inj H
      try go_wp2
      have n0_ := zA (zS HO_272002.out); have n1_ := zA (zN BK45.out); have n2_ := zA (zN BK58.out); have n3_ := zA (zG HB.out); clear HO_272002 BK45 BK58 HB; have HO_272002 := n0_; have BK45 := n1_; have BK58 := n2_; have HB := n3_; clear n0_ n1_ n2_ n3_; refine start_ (n := 5) (S := fun w' => w'.cell? ⟨gb58, 0, none⟩ = some (.string t43) ∧ w'.cell? ⟨gb58, 1, none⟩ = some (.string t49) ∧ w'.cell? ⟨gb58, 2, none⟩ = some (.slice Ao25 t50.length co25) ∧ w'.cell? ⟨gb45, 0, none⟩ = some (.string a1_0) ∧ w'.cell? ⟨gb45, 1, none⟩ = some (.string a1_1) ∧ w'.cell? ⟨gb45, 2, none⟩ = some (.slice A1_2 l1_2.length c1_2)) (ds := []) #[false, false, false, false, false] (by kernel_rfl) rfl rfl ⟨(zP BK58.out 0).trans rfl, (zP BK58.out 1).trans rfl, (zP BK58.out 2).trans rfl, (zP BK45.out 0).trans rfl, (zP BK45.out 1).trans rfl, (zP BK45.out 2).trans rfl⟩ (fun hHeld => ?_); generalize wc.drew = w32 at HO_272002 BK45 BK58 HB hHeld ⊢; refine take_ (i := 0) (N := some 39) (v := ?_) (a' := ?_) #[true, false, false, false, false] rfl rfl (by kernel_rfl) (fun _ _ _ h => h) (Or.inl ⟨by rfl, ?_⟩) hHeld ?_ ?_; rotate_left
      ·rintro w' ⟨s0, s1, s2, s3, s4, s5⟩
       go_simp
       with_reducible rfl
      rotate_left
      ·simp only [Act.put, zC, zD, zE, i64_w, i32_w]
       rfl
      refine take_ (i := 1) (N := some 40) (v := ?_) (a' := ?_) #[true, true, false, false, false] rfl rfl (by kernel_rfl) (fun _ _ _ h => h) (Or.inl ⟨by rfl, ?_⟩) hHeld ?_ ?_; rotate_left
      ·rintro w' ⟨s0, s1, s2, s3, s4, s5⟩
       go_simp
       with_reducible rfl
      rotate_left
      ·simp only [Act.put, zC, zD, zE, i64_w, i32_w]
       rfl
      refine one_ (i := 2) (N := some 41) #[true, true, true, false, false] rfl rfl (by kernel_rfl) (by decide) (fun K hK => ?_); refine goes_ Tryd.func14 (by kernel_rfl) rfl #[.agg #[.string a1_0, .string a1_1, .slice A1_2 l1_2.length c1_2]] (by rfl) rfl rfl (by (try simp only [zAA, zAB, zAC]); first | done | rfl | (simp only [zZ, zY]; rfl)) ?_
      with_reducible refine (laws_toBlock.calls kj11 a1_0 a1_1 _ _ l1_2 t59 t61 t62 _ ?side1 ?side2 A29.out).mono ?_
      (case side1 => repeat (first | exact (Kd.C_below HR1_2.out HB.out) | (with_reducible refine zT ?_ _) | (with_reducible refine zU ?_ _) | (with_reducible refine zV ?_))); (case side2 => exact HC1_2.out); rintro e w33 ⟨v66, rfl, ho0, hb⟩; refine ⟨_, rfl, ?_⟩; have n0_ := zA (yJ (by (with_reducible repeat (first | apply zQ | apply zR | apply zS)); exact HO_272002.out) (Kd.R_base ho0) hb); have n1_ := zA (Kd.R_lower (yK ho0 (Kd.R_lt (by (with_reducible repeat (first | apply zQ | apply zR | apply zS)); exact HO_272002.out))) (zAE (by repeat (first | (with_reducible first | exact HB.out | apply zH | apply zF | apply zG | refine zI ?_ GE45.out | refine zI ?_ GE58.out) | exact HB.out)))); have n2_ := zA (yE (g := gb45) (o := .cells #[.string a1_0, .string a1_1, .slice A1_2 l1_2.length c1_2] 32 (0, 0)) (by (with_reducible repeat (first | refine zL ?_ _ | refine zN ?_ | refine zM ?_ _)); exact BK45.out) hb); have n3_ := zA (yE (g := gb58) (o := .cells #[.string t43, .string t49, .slice Ao25 t50.length co25] 35 (0, 0)) (by (with_reducible repeat (first | refine zL ?_ _ | refine zN ?_ | refine zM ?_ _)); exact BK58.out) hb); have n4_ := zA (zAD (by repeat (first | (with_reducible first | exact HB.out | apply zH | apply zF | apply zG | refine zI ?_ GE45.out | refine zI ?_ GE58.out) | exact HB.out)) hb); clear HO_272002 BK45 BK58 HB; have HO_272002 := n0_; have HO67 := n1_; have BK45 := n2_; have BK58 := n3_; have HB := n4_; clear n0_ n1_ n2_ n3_ n4_; (try clear hb); (try clear ho0); obtain ⟨Ao34, co34, eo34⟩ := Kd.R_slice HO67.out; (first | subst eo34 | (injection eo34 with f1_ f2_ f3_; have f4_ := f1_.symm; have f5_ := f3_.symm; clear f1_ f2_ f3_; subst f4_; subst f5_)); refine hK.out _ _ ⟨(zP BK58.out 0).trans rfl, (zP BK58.out 1).trans rfl, (zP BK58.out 2).trans rfl, (zP BK45.out 0).trans rfl, (zP BK45.out 1).trans rfl, (zP BK45.out 2).trans rfl⟩ (fun hHeld => ?_); clear hK K; refine norm_ (a' := ?_) ?_ ?_; rotate_left
      ·show Act.put _ (some 41) _ = _
       simp only [Act.put, zC, zD, zE, i64_w, i32_w]; rfl
      refine one_ (i := 3) (N := some 42) #[true, true, true, true, false] rfl rfl (by kernel_rfl) (by decide) (fun K hK => ?_); refine goes_ Tryd.func16 (by kernel_rfl) rfl #[.agg #[.string t43, .string t49, .slice Ao25 t50.length co25], .agg #[.string t59, .string t61, .slice Ao34 t62.length co34]] (by rfl) rfl rfl (by (try simp only [zAA, zAB, zAC]); first | done | rfl | (simp only [zZ, zY]; rfl)) ?_
      with_reducible refine (laws_eqBlock.calls kj11 t43 t49 _ _ t50 t59 t61 _ _ t62 true _ ?side1 ?side2 ?side3 ?side4 A30.out).mono ?_
      (case side1 => repeat (first | exact (yD HO_272002.out).2.2 | (with_reducible refine zT ?_ _) | (with_reducible refine zU ?_ _) | (with_reducible refine zV ?_))); (case side2 => exact (yD HO_272002.out).2.1); (case side3 => repeat (first | exact (yD HO67.out).2.2 | (with_reducible refine zT ?_ _) | (with_reducible refine zU ?_ _) | (with_reducible refine zV ?_))); (case side4 => exact (yD HO67.out).2.1); rintro e w35 ⟨rfl, hb⟩; refine ⟨_, rfl, ?_⟩; have n0_ := zA (Kd.R_below (by (with_reducible repeat (first | apply zQ | apply zR | apply zS)); exact HO_272002.out) hb); have n1_ := zA (Kd.R_below (by (with_reducible repeat (first | apply zQ | apply zR | apply zS)); exact HO67.out) hb); have n2_ := zA (yE (g := gb45) (o := .cells #[.string a1_0, .string a1_1, .slice A1_2 l1_2.length c1_2] 32 (0, 0)) (by (with_reducible repeat (first | refine zL ?_ _ | refine zN ?_ | refine zM ?_ _)); exact BK45.out) hb); have n3_ := zA (yE (g := gb58) (o := .cells #[.string t43, .string t49, .slice Ao25 t50.length co25] 35 (0, 0)) (by (with_reducible repeat (first | refine zL ?_ _ | refine zN ?_ | refine zM ?_ _)); exact BK58.out) hb); have n4_ := zA (zAD (by repeat (first | (with_reducible first | exact HB.out | apply zH | apply zF | apply zG | refine zI ?_ GE45.out | refine zI ?_ GE58.out) | exact HB.out)) hb); clear HO_272002 HO67 BK45 BK58 HB; have HO_272002 := n0_; have HO67 := n1_; have BK45 := n2_; have BK58 := n3_; have HB := n4_; clear n0_ n1_ n2_ n3_ n4_; (try clear hb); refine hK.out _ _ ⟨(zP BK58.out 0).trans rfl, (zP BK58.out 1).trans rfl, (zP BK58.out 2).trans rfl, (zP BK45.out 0).trans rfl, (zP BK45.out 1).trans rfl, (zP BK45.out 2).trans rfl⟩ (fun hHeld => ?_); clear hK K; refine norm_ (a' := ?_) ?_ ?_; rotate_left
      ·show Act.put _ (some 42) _ = _
       simp only [Act.put, zC, zD, zE, i64_w, i32_w]; rfl
      refine pure_ (i := 4) (N := some 43) (v := ?_) (a' := ?_) #[true, true, true, true, true] rfl rfl (by kernel_rfl) (fun _ _ _ h => h) (Or.inl ⟨by rfl, ?_⟩) ?_ ?_; rotate_left
      ·intro w'
       go_simp
       with_reducible rfl
      rotate_left
      ·simp only [Act.put, zC, zD, zE, i64_w, i32_w]
       rfl
      refine done_ (by kernel_rfl) ?_
      try go_wp2
      go_ret; exact ⟨by first | rfl | (simp <;> rfl) | (simp [*] <;> rfl), by repeat (first | (with_reducible first | exact HB.out | apply zH | apply zF | apply zG | refine zI ?_ GE45.out | refine zI ?_ GE58.out) | exact HB.out)⟩
     ·replace c31 := Bool.eq_false_iff.mpr c31
      subst c31; have H1 : (some false) = some r := by rw [if_neg (show ¬ (false = true) by decide)] at H; exact H
      clear H; have H := H1; clear H1; obtain rfl := Option.some.inj H
      try go_wp2
      have n0_ := zA (zS HO_272002.out); have n1_ := zA (zN BK45.out); have n2_ := zA (zN BK58.out); have n3_ := zA (zG HB.out); clear HO_272002 BK45 BK58 HB; have HO_272002 := n0_; have BK45 := n1_; have BK58 := n2_; have HB := n3_; clear n0_ n1_ n2_ n3_; refine start_ (n := 5) (S := fun w' => w'.cell? ⟨gb58, 0, none⟩ = some (.string t43) ∧ w'.cell? ⟨gb58, 1, none⟩ = some (.string t49) ∧ w'.cell? ⟨gb58, 2, none⟩ = some (.slice Ao25 t50.length co25) ∧ w'.cell? ⟨gb45, 0, none⟩ = some (.string a1_0) ∧ w'.cell? ⟨gb45, 1, none⟩ = some (.string a1_1) ∧ w'.cell? ⟨gb45, 2, none⟩ = some (.slice A1_2 l1_2.length c1_2)) (ds := []) #[false, false, false, false, false] (by kernel_rfl) rfl rfl ⟨(zP BK58.out 0).trans rfl, (zP BK58.out 1).trans rfl, (zP BK58.out 2).trans rfl, (zP BK45.out 0).trans rfl, (zP BK45.out 1).trans rfl, (zP BK45.out 2).trans rfl⟩ (fun hHeld => ?_); generalize wc.drew = w36 at HO_272002 BK45 BK58 HB hHeld ⊢; refine take_ (i := 0) (N := some 39) (v := ?_) (a' := ?_) #[true, false, false, false, false] rfl rfl (by kernel_rfl) (fun _ _ _ h => h) (Or.inl ⟨by rfl, ?_⟩) hHeld ?_ ?_; rotate_left
      ·rintro w' ⟨s0, s1, s2, s3, s4, s5⟩
       go_simp
       with_reducible rfl
      rotate_left
      ·simp only [Act.put, zC, zD, zE, i64_w, i32_w]
       rfl
      refine take_ (i := 1) (N := some 40) (v := ?_) (a' := ?_) #[true, true, false, false, false] rfl rfl (by kernel_rfl) (fun _ _ _ h => h) (Or.inl ⟨by rfl, ?_⟩) hHeld ?_ ?_; rotate_left
      ·rintro w' ⟨s0, s1, s2, s3, s4, s5⟩
       go_simp
       with_reducible rfl
      rotate_left
      ·simp only [Act.put, zC, zD, zE, i64_w, i32_w]
       rfl
      refine one_ (i := 2) (N := some 41) #[true, true, true, false, false] rfl rfl (by kernel_rfl) (by decide) (fun K hK => ?_); refine goes_ Tryd.func14 (by kernel_rfl) rfl #[.agg #[.string a1_0, .string a1_1, .slice A1_2 l1_2.length c1_2]] (by rfl) rfl rfl (by (try simp only [zAA, zAB, zAC]); first | done | rfl | (simp only [zZ, zY]; rfl)) ?_
      with_reducible refine (laws_toBlock.calls kj11 a1_0 a1_1 _ _ l1_2 t59 t61 t62 _ ?side1 ?side2 A29.out).mono ?_
      (case side1 => repeat (first | exact (Kd.C_below HR1_2.out HB.out) | (with_reducible refine zT ?_ _) | (with_reducible refine zU ?_ _) | (with_reducible refine zV ?_))); (case side2 => exact HC1_2.out); rintro e w37 ⟨v66, rfl, ho0, hb⟩; refine ⟨_, rfl, ?_⟩; have n0_ := zA (yJ (by (with_reducible repeat (first | apply zQ | apply zR | apply zS)); exact HO_272002.out) (Kd.R_base ho0) hb); have n1_ := zA (Kd.R_lower (yK ho0 (Kd.R_lt (by (with_reducible repeat (first | apply zQ | apply zR | apply zS)); exact HO_272002.out))) (zAE (by repeat (first | (with_reducible first | exact HB.out | apply zH | apply zF | apply zG | refine zI ?_ GE45.out | refine zI ?_ GE58.out) | exact HB.out)))); have n2_ := zA (yE (g := gb45) (o := .cells #[.string a1_0, .string a1_1, .slice A1_2 l1_2.length c1_2] 32 (0, 0)) (by (with_reducible repeat (first | refine zL ?_ _ | refine zN ?_ | refine zM ?_ _)); exact BK45.out) hb); have n3_ := zA (yE (g := gb58) (o := .cells #[.string t43, .string t49, .slice Ao25 t50.length co25] 35 (0, 0)) (by (with_reducible repeat (first | refine zL ?_ _ | refine zN ?_ | refine zM ?_ _)); exact BK58.out) hb); have n4_ := zA (zAD (by repeat (first | (with_reducible first | exact HB.out | apply zH | apply zF | apply zG | refine zI ?_ GE45.out | refine zI ?_ GE58.out) | exact HB.out)) hb); clear HO_272002 BK45 BK58 HB; have HO_272002 := n0_; have HO67 := n1_; have BK45 := n2_; have BK58 := n3_; have HB := n4_; clear n0_ n1_ n2_ n3_ n4_; (try clear hb); (try clear ho0); obtain ⟨Ao38, co38, eo38⟩ := Kd.R_slice HO67.out; (first | subst eo38 | (injection eo38 with f1_ f2_ f3_; have f4_ := f1_.symm; have f5_ := f3_.symm; clear f1_ f2_ f3_; subst f4_; subst f5_)); refine hK.out _ _ ⟨(zP BK58.out 0).trans rfl, (zP BK58.out 1).trans rfl, (zP BK58.out 2).trans rfl, (zP BK45.out 0).trans rfl, (zP BK45.out 1).trans rfl, (zP BK45.out 2).trans rfl⟩ (fun hHeld => ?_); clear hK K; refine norm_ (a' := ?_) ?_ ?_; rotate_left
      ·show Act.put _ (some 41) _ = _
       simp only [Act.put, zC, zD, zE, i64_w, i32_w]; rfl
      refine one_ (i := 3) (N := some 42) #[true, true, true, true, false] rfl rfl (by kernel_rfl) (by decide) (fun K hK => ?_); refine goes_ Tryd.func16 (by kernel_rfl) rfl #[.agg #[.string t43, .string t49, .slice Ao25 t50.length co25], .agg #[.string t59, .string t61, .slice Ao38 t62.length co38]] (by rfl) rfl rfl (by (try simp only [zAA, zAB, zAC]); first | done | rfl | (simp only [zZ, zY]; rfl)) ?_
      with_reducible refine (laws_eqBlock.calls kj11 t43 t49 _ _ t50 t59 t61 _ _ t62 false _ ?side1 ?side2 ?side3 ?side4 A30.out).mono ?_
      (case side1 => repeat (first | exact (yD HO_272002.out).2.2 | (with_reducible refine zT ?_ _) | (with_reducible refine zU ?_ _) | (with_reducible refine zV ?_))); (case side2 => exact (yD HO_272002.out).2.1); (case side3 => repeat (first | exact (yD HO67.out).2.2 | (with_reducible refine zT ?_ _) | (with_reducible refine zU ?_ _) | (with_reducible refine zV ?_))); (case side4 => exact (yD HO67.out).2.1); rintro e w39 ⟨rfl, hb⟩; refine ⟨_, rfl, ?_⟩; have n0_ := zA (Kd.R_below (by (with_reducible repeat (first | apply zQ | apply zR | apply zS)); exact HO_272002.out) hb); have n1_ := zA (Kd.R_below (by (with_reducible repeat (first | apply zQ | apply zR | apply zS)); exact HO67.out) hb); have n2_ := zA (yE (g := gb45) (o := .cells #[.string a1_0, .string a1_1, .slice A1_2 l1_2.length c1_2] 32 (0, 0)) (by (with_reducible repeat (first | refine zL ?_ _ | refine zN ?_ | refine zM ?_ _)); exact BK45.out) hb); have n3_ := zA (yE (g := gb58) (o := .cells #[.string t43, .string t49, .slice Ao25 t50.length co25] 35 (0, 0)) (by (with_reducible repeat (first | refine zL ?_ _ | refine zN ?_ | refine zM ?_ _)); exact BK58.out) hb); have n4_ := zA (zAD (by repeat (first | (with_reducible first | exact HB.out | apply zH | apply zF | apply zG | refine zI ?_ GE45.out | refine zI ?_ GE58.out) | exact HB.out)) hb); clear HO_272002 HO67 BK45 BK58 HB; have HO_272002 := n0_; have HO67 := n1_; have BK45 := n2_; have BK58 := n3_; have HB := n4_; clear n0_ n1_ n2_ n3_ n4_; (try clear hb); refine hK.out _ _ ⟨(zP BK58.out 0).trans rfl, (zP BK58.out 1).trans rfl, (zP BK58.out 2).trans rfl, (zP BK45.out 0).trans rfl, (zP BK45.out 1).trans rfl, (zP BK45.out 2).trans rfl⟩ (fun hHeld => ?_); clear hK K; refine norm_ (a' := ?_) ?_ ?_; rotate_left
      ·show Act.put _ (some 42) _ = _
       simp only [Act.put, zC, zD, zE, i64_w, i32_w]; rfl
      refine pure_ (i := 4) (N := some 43) (v := ?_) (a' := ?_) #[true, true, true, true, true] rfl rfl (by kernel_rfl) (fun _ _ _ h => h) (Or.inl ⟨by rfl, ?_⟩) ?_ ?_; rotate_left
      ·intro w'
       go_simp
       with_reducible rfl
      rotate_left
      ·simp only [Act.put, zC, zD, zE, i64_w, i32_w]
       rfl
      refine done_ (by kernel_rfl) ?_
      try go_wp2
      go_ret; exact ⟨by first | rfl | (simp <;> rfl) | (simp [*] <;> rfl), by repeat (first | (with_reducible first | exact HB.out | apply zH | apply zF | apply zG | refine zI ?_ GE45.out | refine zI ?_ GE58.out) | exact HB.out)⟩
end Go.Proofs.YthhkkhnjkoacnaaDoor.PA
end
section
namespace Go.Proofs.YthhkkhnjkoacnaaDoor.PB
open Go.RowKit Go.Proofs.YthhkkhnjkoacnaaDoorW.PrintWords Go.Proofs.YthhkkhnjkoacnaaDoorW.PrintLast Go.Proofs.YthhkkhnjkoacnaaDoorW.PrintMore
set_option linter.unusedVariables false
theorem ev_pos {α : Type} {c : Prop} [Decidable c] {f g : Nat → Option α} {r : α} (hc : c) (h : Ev f r) : Ev (fun k => if c then f k else g k) r := by
 simp only [if_pos hc]; exact h
theorem ev_neg {α : Type} {c : Prop} [Decidable c] {f g : Nat → Option α} {r : α} (hc : ¬ c) (h : Ev g r) : Ev (fun k => if c then f k else g k) r := by
 simp only [if_neg hc]; exact h
theorem ev_bind {α β : Type} {g : Nat → Option α} {f : Nat → α → Option β} {a : α} {r : β} (h : Ev g a) (k : Ev (fun n => f n a) r) : Ev (fun n => (g n).bind (f n)) r := Ev.bind h k
theorem ev_const {α β : Type} {o : Option α} {f : Nat → α → Option β} {a : α} {r : β} (h : o = some a) (k : Ev (fun n => f n a) r) : Ev (fun n => o.bind (f n)) r := by
 subst h; exact k
theorem ev_of_eq {α : Type} {o : Option α} {r : α} (h : o = some r) : Ev (fun _ => o) r := by subst h; exact Ev.now r
theorem ev_eq {α : Type} {f : Nat → Option α} {r r' : α} (h : Ev f r) (e : r = r') : Ev f r' := e ▸ h
theorem w64 {x : Int} (h0 : -9223372036854775808 ≤ x) (h1 : x ≤ 9223372036854775807) : wrap64 x = x := by
 unfold wrap64; omega
theorem size_toList (s : ByteArray) : s.toList.length = s.size := by rw [ByteArray.toList_eq]; exact data_length s
theorem bt_get (s : ByteArray) (i : Nat) (h : i < s.size) : bt s (i : Int) = ((s.toList.getD i 0).toNat : Int) := by
 rw [ByteArray.toList_eq]
 unfold bt
 rw [dif_pos (by simpa using h)]
 have h' : i < s.data.toList.length := by rw [data_length]; exact h
 simp [List.getD_eq_getElem?_getD, List.getElem?_eq_getElem h']
 rfl
end Go.Proofs.YthhkkhnjkoacnaaDoor.PB
end
section
namespace Go.Proofs.YthhkkhnjkoacnaaDoor.PD
open Go.RowKit Go.Proofs.YthhkkhnjkoacnaaDoorW.PrintWords Go.Proofs.YthhkkhnjkoacnaaDoorW.PrintLast Go.Proofs.YthhkkhnjkoacnaaDoorW.PrintMore Go.Proofs.YthhkkhnjkoacnaaDoor.PB Go.Proofs.YthhkkhnjkoacnaaDoor.PA
set_option linter.unusedVariables false
def dstep (p : Int × Int) (c : UInt8) : Int × Int := ((p.1 + (c.toNat : Int)) % 65521, (p.2 + (p.1 + (c.toNat : Int)) % 65521) % 65521)
def dfold (p : Int × Int) (l : List UInt8) : Int × Int := l.foldl dstep p
def InP (p : Int × Int) : Prop := 0 ≤ p.1 ∧ p.1 < 65521 ∧ 0 ≤ p.2 ∧ p.2 < 65521
theorem dstep_in {p : Int × Int} {c : UInt8} : InP (dstep p c) := by
 unfold InP dstep; refine ⟨?_, ?_, ?_, ?_⟩ <;> simp only <;> omega
theorem dfold_in {p : Int × Int} (h : InP p) (l : List UInt8) : InP (dfold p l) := by
 induction l generalizing p with
 | nil => exact h
 | cons c l ih => exact ih dstep_in
def four (p : Int × Int) : ByteArray := strOfNums [p.2 / 256 % 256, p.2 % 256, p.1 / 256 % 256, p.1 % 256]
def dig (kind : Int) (s : ByteArray) : ByteArray := four (dfold (kind + 1, kind + 1) s.toList)
theorem four_size (p : Int × Int) : (four p).size = 4 := by unfold four; rw [strOfNums_size]; rfl
theorem dig_size (kind : Int) (s : ByteArray) : (dig kind s).size = 4 := four_size _
theorem drop_at (l : List UInt8) (i : Nat) (h : i < l.length) : l.drop i = l.getD i 0 :: l.drop (i + 1) := by
 rw [List.drop_eq_getElem_cons h]; simp [List.getD_eq_getElem?_getD, List.getElem?_eq_getElem h]
theorem step_arith {A B : Int} {c : Nat} (hA : 0 ≤ A ∧ A < 65521 ∧ 0 ≤ B ∧ B < 65521) (hc : c < 256) :
  Int.tmod (wrap64 (A + wrap64 (c : Int))) 65521 = (A + (c : Int)) % 65521 ∧ Int.tmod (wrap64 (B + (A + (c : Int)) % 65521)) 65521 = (B + (A + (c : Int)) % 65521) % 65521 := by
 have h1 : wrap64 (c : Int) = c := w64 (by omega) (by omega)
 have h2 : wrap64 (A + c) = A + c := w64 (by omega) (by omega)
 have h3 : wrap64 (B + (A + (c : Int)) % 65521) = B + (A + (c : Int)) % 65521 := w64 (by omega) (by omega)
 rw [h1, h2, h3, Int.tmod_eq_emod_of_nonneg (by omega), Int.tmod_eq_emod_of_nonneg (by omega)]
 exact ⟨rfl, rfl⟩
theorem feed_spec (s : ByteArray) (hs : s.size ≤ 1000000000000) (L : Int) (hL : 0 ≤ L ∧ L ≤ 1000000000000) : ∀ (d i : Nat) (A B : Int), i + d = s.size → InP (A, B) →
  Ev (fun k => spec_l1Feed.l0 k s (i : Int) A B L) ((dfold (A, B) (s.toList.drop i)).1, (dfold (A, B) (s.toList.drop i)).2, L + s.size) := by
 intro d
 induction d with
 | zero =>
  intro i A B hi hp
  refine Ev.step (f := fun _ => some (A, B, wrap64 (L + (s.size : Int)))) (fun k => ?_) ?_
  ·simp only [spec_l1Feed.l0]; rw [if_neg (by omega)]
  ·rw [List.drop_eq_nil_of_le (by rw [size_toList]; omega)]
   rw [w64 (by omega) (by omega)]
   exact Ev.now _
 | succ d ih =>
  intro i A B hi hp
  have hlt : i < s.size := by omega
  have hb := bt_get s i hlt
  have hc : (s.toList.getD i 0).toNat < 256 := UInt8.toNat_lt _
  have ha := step_arith (A := A) (B := B) hp hc
  refine Ev.step (f := fun k => spec_l1Feed.l0 k s ((i + 1 : Nat) : Int) (dstep (A, B) (s.toList.getD i 0)).1 (dstep (A, B) (s.toList.getD i 0)).2 L) (fun k => ?_) ?_
  ·simp only [spec_l1Feed.l0]; rw [if_pos (by omega), if_pos (by omega), hb, ha.1, ha.2, w64 (x := (i : Int) + 1) (by omega) (by omega)]
   simp only [dstep]
   congr 1
  ·rw [drop_at _ _ (by rw [size_toList]; exact hlt)]
   exact ih (i + 1) _ _ (by omega) dstep_in
theorem feed_impl (s : ByteArray) (hs : s.size ≤ 1000000000000) (L : Int) (hL : 0 ≤ L ∧ L ≤ 1000000000000) : ∀ (d i : Nat) (A B : Int), i + d = s.size → InP (A, B) →
  Ev (fun k => impl_Mix_feed.l0 k s (s.size : Int) (i : Int) A B L) ((dfold (A, B) (s.toList.drop i)).1, (dfold (A, B) (s.toList.drop i)).2, L + s.size) := by
 intro d
 induction d with
 | zero =>
  intro i A B hi hp
  refine Ev.step (f := fun _ => some (A, B, wrap64 (L + (s.size : Int)))) (fun k => ?_) ?_
  ·simp only [impl_Mix_feed.l0]; rw [if_neg (by omega)]
  ·rw [List.drop_eq_nil_of_le (by rw [size_toList]; omega)]
   rw [w64 (by omega) (by omega)]
   exact Ev.now _
 | succ d ih =>
  intro i A B hi hp
  have hlt : i < s.size := by omega
  have hb := bt_get s i hlt
  have hc : (s.toList.getD i 0).toNat < 256 := UInt8.toNat_lt _
  have ha := step_arith (A := A) (B := B) hp hc
  refine Ev.step (f := fun k => impl_Mix_feed.l0 k s (s.size : Int) ((i + 1 : Nat) : Int) (dstep (A, B) (s.toList.getD i 0)).1 (dstep (A, B) (s.toList.getD i 0)).2 L) (fun k => ?_) ?_
  ·simp only [impl_Mix_feed.l0]; rw [if_pos (by omega), if_pos (by omega), if_pos (by omega), hb, ha.1, ha.2, w64 (x := (i : Int) + 1) (by omega) (by omega)]
   simp only [dstep]
   congr 1
  ·rw [drop_at _ _ (by rw [size_toList]; exact hlt)]
   exact ih (i + 1) _ _ (by omega) dstep_in
def Kd_ (c : Int) : Prop := 97 ≤ c ∧ c ≤ 122
theorem digS (kind : Int) (hk : Kd_ kind) (s : ByteArray) (hs : s.size ≤ 1000000000000) : Ev (fun k => spec_l1Digest.f k kind s) (dig kind s) := by
 obtain ⟨h0, h1⟩ := hk
 have e1 : spec_NewMix.f kind = some (kind + 1, kind + 1, 0, true) := by
  unfold spec_NewMix.f spec_l1Kind.f
  rw [if_pos (by omega)]
  simp only [Option.bind_some, decide_eq_true h1, if_true]
  rw [w64 (x := kind) (by omega) (by omega), w64 (by omega) (by omega), Int.add_comm]
 have hp : InP (kind + 1, kind + 1) := by unfold InP; refine ⟨?_, ?_, ?_, ?_⟩ <;> simp only <;> omega
 obtain ⟨K, h⟩ := feed_spec s hs 0 (by omega) s.size 0 (kind + 1) (kind + 1) (by omega) hp
 refine ⟨K, fun k hk => ?_⟩
 have h' := h k hk
 dsimp only at h'
 rw [show ((0 : Nat) : Int) = 0 from rfl] at h'
 unfold spec_l1Digest.f spec_l1Feed.f spec_l1End.f
 simp only [e1, Option.bind_some]
 rw [h']
 simp only [Option.bind_some, List.drop_zero]
 rfl
theorem digI (kind : Int) (hk : Kd_ kind) (s : ByteArray) (hs : s.size ≤ 1000000000000) : Ev (fun k => impl_digest.f k kind s) (dig kind s) := by
 obtain ⟨h0, h1⟩ := hk
 have e1 : impl_newMix.f kind = some (kind + 1, kind + 1, 0) := by
  unfold impl_newMix.f
  rw [w64 (x := kind) (by omega) (by omega), w64 (by omega) (by omega)]
 have hp : InP (kind + 1, kind + 1) := by unfold InP; refine ⟨?_, ?_, ?_, ?_⟩ <;> simp only <;> omega
 obtain ⟨K, h⟩ := feed_impl s hs 0 (by omega) s.size 0 (kind + 1) (kind + 1) (by omega) hp
 refine ⟨K, fun k hk => ?_⟩
 have h' := h k hk
 dsimp only at h'
 rw [show ((0 : Nat) : Int) = 0 from rfl] at h'
 have hq := dfold_in hp s.toList
 unfold impl_digest.f impl_Mix_feed.f impl_Mix_end.f
 simp only [e1, Option.bind_some]
 rw [h']
 simp only [Option.bind_some, List.drop_zero]
 unfold dig four
 generalize dfold (kind + 1, kind + 1) s.toList = p at hq ⊢
 obtain ⟨q0, q1, q2, q3⟩ := hq
 rw [Int.tdiv_eq_ediv_of_nonneg q2, Int.tdiv_eq_ediv_of_nonneg q0, Int.tmod_eq_emod_of_nonneg q2, Int.tmod_eq_emod_of_nonneg q0, w64 (x := p.2 / 256) (by omega) (by omega), w64 (x := p.1 / 256) (by omega) (by omega)]
 rw [Int.emod_emod_of_dvd p.2 (Int.dvd_refl _), Int.emod_emod_of_dvd p.1 (Int.dvd_refl _)]
def one (n : Int) : ByteArray := strOfNums [n % 256]
theorem one_size (n : Int) : (one n).size = 1 := by unfold one; rw [strOfNums_size]; rfl
theorem oneI (n : Int) : impl_oneByte.f n = some (one n) := rfl
end Go.Proofs.YthhkkhnjkoacnaaDoor.PD
end
section
namespace Go.Proofs.YthhkkhnjkoacnaaDoor.PK
open Go.RowKit Go.Proofs.YthhkkhnjkoacnaaDoorW.PrintWords Go.Proofs.YthhkkhnjkoacnaaDoorW.PrintLast Go.Proofs.YthhkkhnjkoacnaaDoorW.PrintMore Go.Proofs.YthhkkhnjkoacnaaDoor.PB Go.Proofs.YthhkkhnjkoacnaaDoor.PD Go.Proofs.YthhkkhnjkoacnaaDoor.PA
set_option linter.unusedVariables false
theorem app_size (a b : ByteArray) : (a ++ b).size = a.size + b.size := ByteArray.size_append
end Go.Proofs.YthhkkhnjkoacnaaDoor.PK
end
section
namespace Go.Proofs.YthhkkhnjkoacnaaDoor.PL
open Go.RowKit Go.Proofs.YthhkkhnjkoacnaaDoorW.PrintWords Go.Proofs.YthhkkhnjkoacnaaDoorW.PrintLast Go.Proofs.YthhkkhnjkoacnaaDoorW.PrintMore Go.Proofs.YthhkkhnjkoacnaaDoor.PB Go.Proofs.YthhkkhnjkoacnaaDoor.PA
set_option linter.unusedVariables false
theorem rdOf_at {α : Type} (d : α) (l : List α) (i : Nat) (h : i < l.length) : rdOf d l (i : Int) = l[i] := by
 simp [rdOf, List.getD_eq_getElem?_getD, List.getElem?_eq_getElem h]
def filled {α β : Type} (f : α → β) (z : β) (l : List α) (i : Nat) : List β := (l.take i).map f ++ List.replicate (l.length - i) z
theorem filled_length {α β : Type} (f : α → β) (z : β) (l : List α) (i : Nat) (h : i ≤ l.length) : (filled f z l i).length = l.length := by
 simp [filled, Nat.min_eq_left h]; omega
theorem filled_zero {α β : Type} (f : α → β) (z : β) (l : List α) : filled f z l 0 = List.replicate l.length z := by simp [filled]
theorem filled_all {α β : Type} (f : α → β) (z : β) (l : List α) : filled f z l l.length = l.map f := by simp [filled]
theorem filled_set {α β : Type} (f : α → β) (z : β) (l : List α) (i : Nat) (h : i < l.length) : (filled f z l i).set i (f l[i]) = filled f z l (i + 1) := by
 unfold filled
 rw [List.take_succ_eq_append_getElem h, List.map_append, List.map_cons, List.map_nil]
 have hl : ((l.take i).map f).length = i := by simp [Nat.min_eq_left (Nat.le_of_lt h)]
 obtain ⟨m, hm⟩ : ∃ m, l.length - i = m + 1 := ⟨l.length - i - 1, by omega⟩
 rw [hm, List.replicate_succ, List.set_append_right _ _ (by omega), hl, Nat.sub_self, List.set_cons_zero, show l.length - (i + 1) = m by omega]
 simp
theorem toS (l : List ByteArray) (hl : l.length ≤ 2000000) : Ev (fun k => laws_toStringS.f k l) l := by
 have key : ∀ (d i : Nat), i + d = l.length → Ev (fun k => laws_toStringS.l0 k l (filled (fun x => x) ⟨#[]⟩ l i) (i : Int)) l := by
  intro d
  induction d with
  | zero =>
   intro i hi
   have hi' : i = l.length := by omega
   subst hi'
   refine Ev.step (f := fun _ => some l) (fun k => ?_) (Ev.now _)
   simp only [laws_toStringS.l0]
   rw [if_neg (by omega), filled_all]
   simp
  | succ d ih =>
   intro i hi
   have hlt : i < l.length := by omega
   refine Ev.step (f := fun k => laws_toStringS.l0 k l (filled (fun x => x) ⟨#[]⟩ l (i + 1)) ((i + 1 : Nat) : Int)) (fun k => ?_) (ih (i + 1) (by omega))
   simp only [laws_toStringS.l0]
   rw [if_pos (by omega), if_pos (by omega), if_pos (by rw [filled_length _ _ _ _ (by omega)]; omega), rdOf_at _ _ _ hlt, w64 (x := (i : Int) + 1) (by omega) (by omega)]
   rw [show ((i : Int)).toNat = i from by omega, filled_set (fun x => x) _ l i hlt]
   rfl
 refine Ev.congr (f := fun k => laws_toStringS.l0 k l (filled (fun x => x) ⟨#[]⟩ l 0) ((0 : Nat) : Int)) (fun k => ?_) (key l.length 0 (by omega))
 simp only [laws_toStringS.f]
 rw [if_pos (by omega), if_pos (by omega), filled_zero]
 rfl
theorem eqS_yes (l : List ByteArray) (hl : l.length ≤ 2000000) : Ev (fun k => laws_eqStringS.f k l l) true := by
 have key : ∀ (d i : Nat), i + d = l.length → Ev (fun k => laws_eqStringS.l0 k l l (i : Int)) true := by
  intro d
  induction d with
  | zero =>
   intro i hi
   refine Ev.step (f := fun _ => some true) (fun k => ?_) (Ev.now _)
   simp only [laws_eqStringS.l0]
   rw [if_neg (by omega)]
  | succ d ih =>
   intro i hi
   refine Ev.step (f := fun k => laws_eqStringS.l0 k l l ((i + 1 : Nat) : Int)) (fun k => ?_) (ih (i + 1) (by omega))
   simp only [laws_eqStringS.l0]
   rw [if_pos (by omega), if_pos (by omega), if_pos (by omega), if_pos trivial, w64 (x := (i : Int) + 1) (by omega) (by omega)]
   rfl
 refine Ev.congr (f := fun k => laws_eqStringS.l0 k l l ((0 : Nat) : Int)) (fun k => ?_) (key l.length 0 (by omega))
 simp only [laws_eqStringS.f]
 rw [if_pos trivial]
 rfl
def szL : List ByteArray → Nat
 | [] => 0
 | s :: l => s.size + szL l
def total (l : List ByteArray) : Nat := l.length + szL l
def Fit (l : List ByteArray) : Prop := l.length ≤ 9223372036854775807 ∧ ∀ s ∈ l, s.size ≤ 9223372036854775807
theorem szS_loop (l : List ByteArray) (hf : Fit l) : ∀ (d i : Nat) (R : Int), i + d = l.length → 0 ≤ R → R ≤ 1000000000000 → l.length ≤ 1000000000000 →
  Ev (fun k => laws_szStringS.l0 k l R (i : Int)) (if (szL (l.drop i) : Int) ≤ R then R - szL (l.drop i) else -1) := by
 intro d
 induction d with
 | zero =>
  intro i R hi h0 h1 h2
  rw [List.drop_eq_nil_of_le (by omega)]
  refine Ev.step (f := fun _ => some R) (fun k => ?_) ?_
  ·simp only [laws_szStringS.l0]
   rw [if_neg (by omega)]
  ·rw [show szL [] = 0 from rfl, if_pos (by omega)]
   exact ev_eq (Ev.now R) (by omega)
 | succ d ih =>
  intro i R hi h0 h1 h2
  have hlt : i < l.length := by omega
  have hs := hf.2 _ (List.getElem_mem hlt)
  rw [List.drop_eq_getElem_cons hlt, show szL (l[i] :: l.drop (i + 1)) = l[i].size + szL (l.drop (i + 1)) from rfl]
  by_cases hc : (l[i].size : Int) ≤ R
  ·refine Ev.step (f := fun k => laws_szStringS.l0 k l (R - l[i].size) ((i + 1 : Nat) : Int)) (fun k => ?_) ?_
   ·simp only [laws_szStringS.l0]
    rw [if_pos (by omega), if_pos (by omega), rdOf_at _ _ _ hlt, w64 (x := R - (l[i].size : Int)) (by omega) (by omega), if_neg (by omega), w64 (x := (i : Int) + 1) (by omega) (by omega)]
    rfl
   ·refine ev_eq (ih (i + 1) (R - l[i].size) (by omega) (by omega) (by omega) h2) ?_
    by_cases hd : (szL (l.drop (i + 1)) : Int) ≤ R - l[i].size
    ·rw [if_pos hd, if_pos (by omega)]; omega
    ·rw [if_neg hd, if_neg (by omega)]
  ·refine Ev.step (f := fun _ => some (-1)) (fun k => ?_) ?_
   ·simp only [laws_szStringS.l0]
    rw [if_pos (by omega), if_pos (by omega), rdOf_at _ _ _ hlt, w64 (x := R - (l[i].size : Int)) (by omega) (by omega), if_pos (by omega)]
   ·rw [if_neg (by omega)]
    exact Ev.now _
theorem szS (l : List ByteArray) (hf : Fit l) (R : Int) (h0 : 0 ≤ R) (h1 : R ≤ 1000000000) : Ev (fun k => laws_szStringS.f k l R) (if (total l : Int) ≤ R then R - total l else -1) := by
 have hl := hf.1
 by_cases hc : (l.length : Int) ≤ R
 ·refine Ev.congr (f := fun k => laws_szStringS.l0 k l (R - l.length) ((0 : Nat) : Int)) (fun k => ?_) ?_
  ·simp only [laws_szStringS.f]
   rw [w64 (x := R - (l.length : Int)) (by omega) (by omega), if_neg (by omega)]
   rfl
  ·refine ev_eq (szS_loop l hf l.length 0 (R - l.length) (by omega) (by omega) (by omega) (by omega)) ?_
   rw [List.drop_zero]
   unfold total
   by_cases hd : (szL l : Int) ≤ R - l.length
   ·rw [if_pos hd, if_pos (by omega)]; omega
   ·rw [if_neg hd, if_neg (by omega)]
 ·refine Ev.congr (f := fun _ => some (-1)) (fun k => ?_) ?_
  ·simp only [laws_szStringS.f]
   rw [w64 (x := R - (l.length : Int)) (by omega) (by omega), if_pos (by omega)]
  ·unfold total
   rw [if_neg (by omega)]
   exact Ev.now _
end Go.Proofs.YthhkkhnjkoacnaaDoor.PL
end
section
namespace Go.Proofs.YthhkkhnjkoacnaaDoor.PS

end Go.Proofs.YthhkkhnjkoacnaaDoor.PS
end
section
namespace Go.Proofs.YthhkkhnjkoacnaaDoor.PT
open Go.RowKit Go.Proofs.YthhkkhnjkoacnaaDoorW.PrintWords Go.Proofs.YthhkkhnjkoacnaaDoorW.PrintLast Go.Proofs.YthhkkhnjkoacnaaDoorW.PrintMore Go.Proofs.YthhkkhnjkoacnaaDoor.PB Go.Proofs.YthhkkhnjkoacnaaDoor.PD Go.Proofs.YthhkkhnjkoacnaaDoor.PK Go.Proofs.YthhkkhnjkoacnaaDoor.PL Go.Proofs.YthhkkhnjkoacnaaDoor.PS Go.Proofs.YthhkkhnjkoacnaaDoor.PA
set_option linter.unusedVariables false
theorem inS (a b c : Int) : spec_l1In.f a b c = some (decide (b ≤ a ∧ a ≤ c)) := by
 unfold spec_l1In.f
 by_cases h : a ≥ b
 ·rw [if_pos h]; simp [show b ≤ a from h]
 ·rw [if_neg h]; simp [show ¬ b ≤ a from h]
theorem inI (a b c : Int) : impl_within.f a b c = some (decide (b ≤ a ∧ a ≤ c)) := by
 unfold impl_within.f
 by_cases h : a ≥ b
 ·rw [if_pos h]; simp [show b ≤ a from h]
 ·rw [if_neg h]; simp [show ¬ b ≤ a from h]
end Go.Proofs.YthhkkhnjkoacnaaDoor.PT
end
section
namespace Go.Proofs.YthhkkhnjkoacnaaDoor.PU
open Go.RowKit Go.Proofs.YthhkkhnjkoacnaaDoorW.PrintWords Go.Proofs.YthhkkhnjkoacnaaDoorW.PrintLast Go.Proofs.YthhkkhnjkoacnaaDoorW.PrintMore Go.Proofs.YthhkkhnjkoacnaaDoor.PB Go.Proofs.YthhkkhnjkoacnaaDoor.PD Go.Proofs.YthhkkhnjkoacnaaDoor.PK Go.Proofs.YthhkkhnjkoacnaaDoor.PL Go.Proofs.YthhkkhnjkoacnaaDoor.PS Go.Proofs.YthhkkhnjkoacnaaDoor.PT Go.Proofs.YthhkkhnjkoacnaaDoor.PA
set_option linter.unusedVariables false
theorem idx_any {α : Type} (l : List α) (rf : List α → Int → α) (hrf : ∀ i (h : i < l.length), rf l (i : Int) = l[i]) (L0 : Nat → List α → Int → Int → Option Int) (cl : Nat → α → Option Bool) (p : α → Bool)
  (hstep : ∀ k n i, L0 (k + 1) l n i = if i < n then (if 0 ≤ i then (if i < (l.length : Int) then ((cl k (rf l i)).bind fun t => if t = true then some i else L0 k l n (wrap64 (i + 1))) else none) else none) else some (-1))
  (hp : ∀ x ∈ l, Ev (fun k => cl k x) (p x)) (hl : l.length ≤ 4000000000000000000) : ∃ r, Ev (fun k => L0 k l (l.length : Int) 0) r ∧ decide (r ≥ 0) = l.any p := by
 have key : ∀ (d i : Nat), i + d = l.length → ∃ r, Ev (fun k => L0 k l (l.length : Int) (i : Int)) r ∧ decide (r ≥ 0) = (l.drop i).any p := by
  intro d
  induction d with
  | zero =>
   intro i hi
   refine ⟨-1, Ev.step (f := fun _ => some (-1)) (fun k => ?_) (Ev.now _), ?_⟩
   ·rw [hstep, if_neg (by omega)]
   ·rw [List.drop_eq_nil_of_le (by omega)]; rfl
  | succ d ih =>
   intro i hi
   have hlt : i < l.length := by omega
   have hpx := hp _ (List.getElem_mem hlt)
   rw [List.drop_eq_getElem_cons hlt, List.any_cons]
   have st : ∀ k, L0 (k + 1) l (l.length : Int) (i : Int) = (cl k l[i]).bind fun t => if t = true then some (i : Int) else L0 k l (l.length : Int) ((i + 1 : Nat) : Int) := by
    intro k
    rw [hstep, if_pos (by omega), if_pos (by omega), if_pos (by omega), hrf i hlt, w64 (x := (i : Int) + 1) (by omega) (by omega)]
    rfl
   cases hb : p l[i] with
   | true =>
    rw [hb] at hpx
    refine ⟨(i : Int), Ev.step (f := fun k => (cl k l[i]).bind fun t => if t = true then some (i : Int) else L0 k l (l.length : Int) ((i + 1 : Nat) : Int)) st (ev_bind hpx (ev_pos rfl (Ev.now _))), ?_⟩
    simp only [Bool.true_or]
    exact decide_eq_true (by omega)
   | false =>
    rw [hb] at hpx
    obtain ⟨r, hr, e⟩ := ih (i + 1) (by omega)
    refine ⟨r, Ev.step (f := fun k => (cl k l[i]).bind fun t => if t = true then some (i : Int) else L0 k l (l.length : Int) ((i + 1 : Nat) : Int)) st (ev_bind hpx (ev_neg (by simp) hr)), ?_⟩
    rw [Bool.false_or]; exact e
 obtain ⟨r, hr, e⟩ := key l.length 0 (by omega)
 exact ⟨r, hr, by rw [e, List.drop_zero]⟩
theorem isDigI (s : ByteArray) : impl_isDigest.f s = some (decide (s.size = 4)) := by
 unfold impl_isDigest.f
 refine congrArg some ?_
 by_cases h : s.size = 4
 ·rw [decide_eq_true h, h]; rfl
 ·rw [decide_eq_false h]; exact beq_eq_false_iff_ne.mpr (by omega)
end Go.Proofs.YthhkkhnjkoacnaaDoor.PU
end
section
namespace Go.Proofs.YthhkkhnjkoacnaaDoor.PG
open Go.RowKit Go.Proofs.YthhkkhnjkoacnaaDoorW.PrintWords Go.Proofs.YthhkkhnjkoacnaaDoorW.PrintLast Go.Proofs.YthhkkhnjkoacnaaDoorW.PrintMore Go.Proofs.YthhkkhnjkoacnaaDoor.PB Go.Proofs.YthhkkhnjkoacnaaDoor.PL
set_option linter.unusedVariables false
theorem loop_up {β : Type} {r : β} (n : Nat) (S : Nat → Nat → Option β) (hend : Ev (S n) r) (hround : ∀ i, i < n → Ev (S (i + 1)) r → Ev (S i) r) : Ev (S 0) r := by
 have key : ∀ d i, i + d = n → Ev (S i) r := by
  intro d
  induction d with
  | zero => intro i hi; rw [show i = n by omega]; exact hend
  | succ d ih => intro i hi; exact hround i (by omega) (ih (i + 1) (by omega))
 exact key n 0 (by omega)
def left (R : Int) (w : Nat) : Int := if (w : Int) ≤ R then R - w else -1
theorem left_yes {R : Int} {w : Nat} (h : (w : Int) ≤ R) : left R w = R - w := if_pos h
theorem left_no {R : Int} {w : Nat} (h : ¬ (w : Int) ≤ R) : left R w = -1 := if_neg h
end Go.Proofs.YthhkkhnjkoacnaaDoor.PG
end
section
namespace Go.Proofs.YthhkkhnjkoacnaaDoor.PQ
open Go.RowKit Go.Proofs.YthhkkhnjkoacnaaDoorW.PrintWords Go.Proofs.YthhkkhnjkoacnaaDoorW.PrintLast Go.Proofs.YthhkkhnjkoacnaaDoorW.PrintMore Go.Proofs.YthhkkhnjkoacnaaDoor.PB Go.Proofs.YthhkkhnjkoacnaaDoor.PD Go.Proofs.YthhkkhnjkoacnaaDoor.PK Go.Proofs.YthhkkhnjkoacnaaDoor.PL Go.Proofs.YthhkkhnjkoacnaaDoor.PS Go.Proofs.YthhkkhnjkoacnaaDoor.PT Go.Proofs.YthhkkhnjkoacnaaDoor.PU Go.Proofs.YthhkkhnjkoacnaaDoor.PG Go.Proofs.YthhkkhnjkoacnaaDoor.PA
set_option linter.unusedVariables false
def rowFrom : ByteArray → List ByteArray → ByteArray
 | acc, [] => acc
 | acc, s :: l => rowFrom (acc ++ (one (s.size : Int) ++ s)) l
def rowM (l : List ByteArray) : ByteArray := rowFrom ⟨#[]⟩ l
theorem rowFrom_size (l : List ByteArray) : ∀ acc, (rowFrom acc l).size = acc.size + total l := by
 induction l with
 | nil => intro acc; simp [rowFrom, total, szL]
 | cons s l ih =>
  intro acc
  have e : total (s :: l) = 1 + s.size + total l := by simp only [total, szL, List.length_cons]; omega
  rw [show rowFrom acc (s :: l) = rowFrom (acc ++ (one (s.size : Int) ++ s)) l from rfl, ih, app_size, app_size, one_size, e]; omega
theorem rowM_size (l : List ByteArray) : (rowM l).size = total l := by
 unfold rowM; rw [rowFrom_size]; exact Nat.zero_add _
theorem rowS (l : List ByteArray) (hl : total l ≤ 1000000000) : Ev (fun k => spec_l1Row.f k l) (rowM l) := by
 have hlen : l.length ≤ 1000000000 := by unfold total at hl; omega
 have key : ∀ (d i : Nat) (acc : ByteArray), i + d = l.length → acc.size + total (l.drop i) ≤ 2000000000 → Ev (fun k => spec_l1Row.l0 k acc l (l.length : Int) (i : Int)) (rowFrom acc (l.drop i)) := by
  intro d
  induction d with
  | zero =>
   intro i acc hi _
   rw [List.drop_eq_nil_of_le (by omega)]
   refine Ev.step (f := fun _ => some acc) (fun k => ?_) (Ev.now _)
   simp only [spec_l1Row.l0]; rw [if_neg (by omega)]
  | succ d ih =>
   intro i acc hi ha
   have hlt : i < l.length := by omega
   rw [List.drop_eq_getElem_cons hlt] at ha ⊢
   have e : total (l[i] :: l.drop (i + 1)) = 1 + l[i].size + total (l.drop (i + 1)) := by simp only [total, szL, List.length_cons]; omega
   rw [e] at ha
   refine Ev.step (f := fun k => spec_l1Row.l0 k (acc ++ (one (l[i].size : Int) ++ l[i])) l (l.length : Int) ((i + 1 : Nat) : Int)) (fun k => ?_) ?_
   ·simp only [spec_l1Row.l0]
    rw [if_pos (by omega), if_pos (by omega), if_pos (by omega), rdOf_at _ _ _ hlt, w64 (x := (i : Int) + 1) (by omega) (by omega)]
    have e1 : (strOfNums [(l[i].size : Int) % 256]).size = 1 := by rw [strOfNums_size]; rfl
    simp only [Option.bind_some]
    rw [if_pos (by omega), if_pos (by rw [app_size]; omega)]
    rfl
   ·exact ih (i + 1) _ (by omega) (by rw [app_size, app_size, one_size]; omega)
 exact key l.length 0 ⟨#[]⟩ (by omega) (by rw [List.drop_zero]; show 0 + total l ≤ _; omega)
end Go.Proofs.YthhkkhnjkoacnaaDoor.PQ
end
section
namespace Go.Proofs.YthhkkhnjkoacnaaDoor.PV

end Go.Proofs.YthhkkhnjkoacnaaDoor.PV
end
section
namespace Go.Proofs.YthhkkhnjkoacnaaDoor.PW
open Go.RowKit Go.Proofs.YthhkkhnjkoacnaaDoorW.PrintWords Go.Proofs.YthhkkhnjkoacnaaDoorW.PrintLast Go.Proofs.YthhkkhnjkoacnaaDoorW.PrintMore Go.Proofs.YthhkkhnjkoacnaaDoor.PB Go.Proofs.YthhkkhnjkoacnaaDoor.PD Go.Proofs.YthhkkhnjkoacnaaDoor.PK Go.Proofs.YthhkkhnjkoacnaaDoor.PL Go.Proofs.YthhkkhnjkoacnaaDoor.PS Go.Proofs.YthhkkhnjkoacnaaDoor.PT Go.Proofs.YthhkkhnjkoacnaaDoor.PU Go.Proofs.YthhkkhnjkoacnaaDoor.PG Go.Proofs.YthhkkhnjkoacnaaDoor.PQ Go.Proofs.YthhkkhnjkoacnaaDoor.PV Go.Proofs.YthhkkhnjkoacnaaDoor.PA
set_option linter.unusedVariables false
theorem loop_yes {β : Type} (n : Nat) (S : Nat → Nat → Option β) (Q : Nat → Prop) (b : β) (hround : ∀ r i, i < n → Q i → Ev (S (i + 1)) r → Ev (S i) r) (hend : Ev (S n) b) (hq : ∀ i, i < n → Q i) : Ev (S 0) b :=
 loop_up n S hend (fun i hi h => hround b i hi (hq i hi) h)
theorem loop_no {β : Type} (n : Nat) (S : Nat → Nat → Option β) (Q : Nat → Prop) (no : β) (hround : ∀ r i, i < n → Q i → Ev (S (i + 1)) r → Ev (S i) r) (hno : ∀ i, i < n → ¬ Q i → Ev (S i) no) (hq : ¬ ∀ i, i < n → Q i) : Ev (S 0) no := by
 refine Classical.byContradiction fun hc => hq ?_
 have key : ∀ i, i ≤ n → (¬ Ev (S i) no) ∧ ∀ j, j < i → Q j := by
  intro i
  induction i with
  | zero => intro _; exact ⟨hc, fun j hj => absurd hj (Nat.not_lt_zero j)⟩
  | succ i ih =>
   intro hi
   obtain ⟨h1, h2⟩ := ih (by omega)
   have hQ : Q i := Classical.byContradiction fun h => h1 (hno i (by omega) h)
   refine ⟨fun h => h1 (hround no i (by omega) hQ h), fun j hj => ?_⟩
   by_cases e : j = i
   ·subst e; exact hQ
   ·exact h2 j (by omega)
 exact (key n (Nat.le_refl n)).2
theorem has_str (l : List ByteArray) (L0 : Nat → List ByteArray → Int → Int → Option Int) (cl : Nat → ByteArray → Option Bool) (p : ByteArray → Bool)
  (hstep : ∀ k n i, L0 (k + 1) l n i = if i < n then (if 0 ≤ i then (if i < (l.length : Int) then ((cl k (rdOf ByteArray.empty l i)).bind fun t => if t = true then some i else L0 k l n (wrap64 (i + 1))) else none) else none) else some (-1))
  (hp : ∀ x ∈ l, Ev (fun k => cl k x) (p x)) (hl : l.length ≤ 4000000000000000000) : Ev (fun k => (L0 k l (l.length : Int) 0).bind fun t => some (decide (t ≥ 0))) (l.any p) := by
 obtain ⟨r, hr, e⟩ := idx_any l (fun l i => rdOf ByteArray.empty l i) (fun i h => rdOf_at _ l i h) L0 cl p hstep hp hl
 rw [← e]
 exact ev_bind (f := fun _ t => some (decide (t ≥ 0))) hr (Ev.now _)
theorem not_any {α : Type} (p : α → Bool) : ∀ l : List α, (l.any fun s => !p s) = !(l.all p) := by
 intro l
 induction l with
 | nil => rfl
 | cons x l ih => simp only [List.any_cons, List.all_cons, Bool.not_and, ih]
theorem all_at (l : List ByteArray) (p : ByteArray → Bool) : l.all p = true ↔ ∀ i, i < l.length → p (rdOf ByteArray.empty l (i : Int)) = true := by
 rw [List.all_eq_true]
 constructor
 ·intro h i hi
  rw [rdOf_at _ _ _ hi]
  exact h _ (List.getElem_mem hi)
 ·intro h x hx
  obtain ⟨i, hi, e⟩ := List.getElem_of_mem hx
  have := h i hi
  rw [rdOf_at _ _ _ hi, e] at this
  exact this
abbrev tx (l : List ByteArray) (i : Nat) : ByteArray := rdOf ByteArray.empty l (i : Int)
end Go.Proofs.YthhkkhnjkoacnaaDoor.PW
end
section
namespace Go.Proofs.YthhkkhnjkoacnaaDoor.PX
open Go.RowKit Go.Proofs.YthhkkhnjkoacnaaDoorW.PrintWords Go.Proofs.YthhkkhnjkoacnaaDoorW.PrintLast Go.Proofs.YthhkkhnjkoacnaaDoorW.PrintMore Go.Proofs.YthhkkhnjkoacnaaDoor.PB Go.Proofs.YthhkkhnjkoacnaaDoor.PD Go.Proofs.YthhkkhnjkoacnaaDoor.PK Go.Proofs.YthhkkhnjkoacnaaDoor.PL Go.Proofs.YthhkkhnjkoacnaaDoor.PS Go.Proofs.YthhkkhnjkoacnaaDoor.PT Go.Proofs.YthhkkhnjkoacnaaDoor.PU Go.Proofs.YthhkkhnjkoacnaaDoor.PG Go.Proofs.YthhkkhnjkoacnaaDoor.PQ Go.Proofs.YthhkkhnjkoacnaaDoor.PW Go.Proofs.YthhkkhnjkoacnaaDoor.PA
set_option linter.unusedVariables false
def itemB (s : ByteArray) : Bool := decide ((s.size : Int) ≤ 60)
def blockB (a b : ByteArray) (l : List ByteArray) : Bool := decide (a.size = 4) && (decide (b.size = 4) && (decide (l.length ≤ 6) && l.all itemB))
theorem goodBlockS (a b : ByteArray) (l : List ByteArray) (hl : l.length ≤ 2000000) : Ev (fun k => spec_GoodBlock.f k a b l) (blockB a b l) := by
 have round : ∀ (r : Bool) i, i < l.length → itemB (tx l i) = true → Ev (fun k => spec_GoodBlock.l0 k l (l.length : Int) ((i + 1 : Nat) : Int) a b l) r → Ev (fun k => spec_GoodBlock.l0 k l (l.length : Int) (i : Int) a b l) r := by
  intro r i hi hq h
  have hq' : ((rdOf ByteArray.empty l (i : Int)).size : Int) ≤ 60 := of_decide_eq_true hq
  refine Ev.step (f := fun k => spec_GoodBlock.l0 k l (l.length : Int) ((i + 1 : Nat) : Int) a b l) (fun k => ?_) h
  simp only [spec_GoodBlock.l0]
  rw [if_pos (by omega), if_pos (by omega), if_pos (by omega), if_neg (by omega), w64 (x := (i : Int) + 1) (by omega) (by omega)]
  rfl
 by_cases h : ∀ i, i < l.length → itemB (tx l i) = true
 ·have ha : l.all itemB = true := (all_at l _).2 h
  refine loop_yes l.length (fun i k => spec_GoodBlock.l0 k l (l.length : Int) (i : Int) a b l) _ _ round ?_ h
  refine Ev.step (f := fun k => if (a.size : Int) = 4 then (if (b.size : Int) = 4 then (some (decide ((l.length : Int) ≤ 6))) else (some false)) else (some false)) (fun k => by simp only [spec_GoodBlock.l0]; rw [if_neg (by omega)]) ?_
  unfold blockB
  rw [ha, Bool.and_true]
  by_cases h1 : a.size = 4
  ·refine ev_pos (by omega) ?_
   rw [decide_eq_true h1, Bool.true_and]
   by_cases h2 : b.size = 4
   ·refine ev_pos (by omega) ?_
    rw [decide_eq_true h2, Bool.true_and]
    by_cases h3 : l.length ≤ 6
    ·rw [decide_eq_true h3]; exact ev_eq (Ev.now _) (decide_eq_true (by omega))
    ·rw [decide_eq_false h3]; exact ev_eq (Ev.now _) (decide_eq_false (by omega))
   ·rw [decide_eq_false h2]; exact ev_neg (by omega) (Ev.now _)
  ·rw [decide_eq_false h1]; exact ev_neg (by omega) (Ev.now _)
 ·have ha : l.all itemB = false := by
   cases e : l.all itemB with
   | false => rfl
   | true => exact absurd ((all_at l _).1 e) h
  refine ev_eq (loop_no l.length (fun i k => spec_GoodBlock.l0 k l (l.length : Int) (i : Int) a b l) _ false round (fun i hi hq => ?_) h) ?_
  ·have hq' : ¬ ((rdOf ByteArray.empty l (i : Int)).size : Int) ≤ 60 := fun h' => hq (decide_eq_true h')
   refine Ev.step (f := fun _ => some false) (fun k => ?_) (Ev.now _)
   simp only [spec_GoodBlock.l0]
   rw [if_pos (by omega), if_pos (by omega), if_pos (by omega), if_pos (by omega)]
  ·unfold blockB; rw [ha]; simp
theorem goodBlockI (a b : ByteArray) (l : List ByteArray) (hl : l.length ≤ 2000000) : Ev (fun k => impl_GoodBlock.f k a b l) (blockB a b l) := by
 unfold impl_GoodBlock.f blockB
 refine ev_const (isDigI a) ?_
 by_cases h1 : a.size = 4
 ·refine ev_pos (decide_eq_true h1) (ev_const (isDigI b) ?_)
  rw [decide_eq_true h1, Bool.true_and]
  by_cases h2 : b.size = 4
  ·refine ev_pos (decide_eq_true h2) ?_
   rw [decide_eq_true h2, Bool.true_and]
   by_cases h3 : l.length ≤ 6
   ·refine ev_pos (by omega) ?_
    rw [decide_eq_true h3, Bool.true_and]
    have e : ∀ s : ByteArray, decide ((s.size : Int) > 60) = !itemB s := by
     intro s
     unfold itemB
     by_cases hs : (s.size : Int) ≤ 60
     ·rw [decide_eq_true hs]; exact decide_eq_false (by omega)
     ·rw [decide_eq_false hs]; exact decide_eq_true (by omega)
    have hc := has_str l slices_IndexFunc_impl_GoodBlock_1.l0 (fun _ s => impl_GoodBlock_1.f s) (fun s => !itemB s) (fun k n i => rfl) (fun x _ => ev_of_eq (by unfold impl_GoodBlock_1.f; rw [e])) (by omega)
    rw [not_any] at hc
    refine ev_eq (ev_bind (f := fun _ t => some (!t)) (g := fun k => slices_ContainsFunc_impl_GoodBlock_1.f k l) hc (Ev.now _)) ?_
    rw [Bool.not_not]
   ·rw [decide_eq_false h3]; exact ev_neg (by omega) (Ev.now _)
  ·rw [decide_eq_false h2]; exact ev_neg (by simp) (Ev.now _)
 ·rw [decide_eq_false h1]; exact ev_neg (by simp) (Ev.now _)
theorem app_assoc (a b c : ByteArray) : a ++ b ++ c = a ++ (b ++ c) := ByteArray.append_assoc
theorem rowFrom_app (l : List ByteArray) : ∀ acc, rowFrom acc l = acc ++ rowM l := by
 induction l with
 | nil => intro acc; exact (ByteArray.append_empty (b := acc)).symm
 | cons s l ih =>
  intro acc
  rw [show rowFrom acc (s :: l) = rowFrom (acc ++ (one (s.size : Int) ++ s)) l from rfl, ih, show rowM (s :: l) = rowFrom (⟨#[]⟩ ++ (one (s.size : Int) ++ s)) l from rfl, ih]
  rw [show (⟨#[]⟩ : ByteArray) ++ (one (s.size : Int) ++ s) = one (s.size : Int) ++ s from ByteArray.empty_append, app_assoc]
theorem total_items (l : List ByteArray) (h : l.all itemB = true) : total l ≤ 61 * l.length := by
 induction l with
 | nil => simp [total, szL]
 | cons s l ih =>
  simp only [List.all_cons, Bool.and_eq_true] at h
  have h1 : (s.size : Int) ≤ 60 := of_decide_eq_true h.1
  have := ih h.2
  simp only [total, szL, List.length_cons] at this ⊢
  omega
def blockM (a b : ByteArray) (l : List ByteArray) : ByteArray := a ++ b ++ rowM l
theorem blockB_facts {a b : ByteArray} {l : List ByteArray} (h : blockB a b l = true) : a.size = 4 ∧ b.size = 4 ∧ l.length ≤ 6 ∧ total l ≤ 366 := by
 unfold blockB at h
 simp only [Bool.and_eq_true, decide_eq_true_eq] at h
 have := total_items l h.2.2.2
 exact ⟨h.1, h.2.1, h.2.2.1, by omega⟩
theorem blockM_size {a b : ByteArray} {l : List ByteArray} (h : blockB a b l = true) : (blockM a b l).size ≤ 374 := by
 obtain ⟨h1, h2, h3, h4⟩ := blockB_facts h
 unfold blockM
 rw [app_size, app_size, rowM_size]; omega
theorem bytesBS (a b : ByteArray) (l : List ByteArray) (h : blockB a b l = true) : Ev (fun k => spec_l16Bytes.f k a b l) (blockM a b l) := by
 obtain ⟨h1, h2, h3, h4⟩ := blockB_facts h
 exact ev_pos (by omega) (ev_bind (rowS l (by omega)) (ev_pos (by rw [app_size, rowM_size]; omega) (Ev.now _)))
theorem bytesBI (a b : ByteArray) (l : List ByteArray) (h : blockB a b l = true) : Ev (fun k => impl_Block_bytes.f k a b l) (blockM a b l) := by
 obtain ⟨h1, h2, h3, h4⟩ := blockB_facts h
 refine ev_pos (by omega) ?_
 have key : ∀ (d i : Nat) (acc : ByteArray), i + d = l.length → acc.size + total (l.drop i) ≤ 2000 → Ev (fun k => impl_Block_bytes.l0 k acc l (l.length : Int) (i : Int)) (rowFrom acc (l.drop i)) := by
  intro d
  induction d with
  | zero =>
   intro i acc hi _
   rw [List.drop_eq_nil_of_le (by omega)]
   refine Ev.step (f := fun _ => some acc) (fun k => ?_) (Ev.now _)
   simp only [impl_Block_bytes.l0]; rw [if_neg (by omega)]
  | succ d ih =>
   intro i acc hi ha
   have hlt : i < l.length := by omega
   rw [List.drop_eq_getElem_cons hlt] at ha ⊢
   have e : total (l[i] :: l.drop (i + 1)) = 1 + l[i].size + total (l.drop (i + 1)) := by simp only [total, szL, List.length_cons]; omega
   rw [e] at ha
   refine Ev.step (f := fun k => impl_Block_bytes.l0 k (acc ++ (one (l[i].size : Int) ++ l[i])) l (l.length : Int) ((i + 1 : Nat) : Int)) (fun k => ?_) ?_
   ·simp only [impl_Block_bytes.l0]
    rw [if_pos (by omega), if_pos (by omega), if_pos (by omega), rdOf_at _ _ _ hlt, oneI, w64 (x := (i : Int) + 1) (by omega) (by omega)]
    simp only [Option.bind_some]
    rw [if_pos (by rw [one_size]; omega), if_pos (by rw [app_size, one_size]; omega)]
    rfl
   ·exact ih (i + 1) _ (by omega) (by rw [app_size, app_size, one_size]; omega)
 have := key l.length 0 (a ++ b) (by omega) (by rw [List.drop_zero, app_size]; omega)
 rw [List.drop_zero, rowFrom_app] at this
 exact this
theorem k104 : Kd_ 104 := ⟨by decide, by decide⟩
theorem digBS (a b : ByteArray) (l : List ByteArray) (h : blockB a b l = true) : Ev (fun k => spec_l16Digest.f k a b l) (dig 104 (blockM a b l)) := by
 have := blockM_size h
 exact ev_bind (bytesBS a b l h) (ev_bind (digS 104 k104 _ (by omega)) (Ev.now _))
theorem digBI (a b : ByteArray) (l : List ByteArray) (h : blockB a b l = true) : Ev (fun k => impl_Block_digest.f k a b l) (dig 104 (blockM a b l)) := by
 have := blockM_size h
 exact ev_bind (bytesBI a b l h) (ev_bind (digI 104 k104 _ (by omega)) (Ev.now _))
theorem szBlock (a b : ByteArray) (l : List ByteArray) (ha : a.size ≤ 9223372036854775807) (hb : b.size ≤ 9223372036854775807) (hf : Fit l) (R : Int) (h0 : 0 ≤ R) (h1 : R ≤ 1000000000) :
  Ev (fun k => laws_szBlock.f k a b l R) (left R (a.size + b.size + total l)) := by
 unfold laws_szBlock.f
 rw [w64 (x := R - (a.size : Int)) (by omega) (by omega)]
 by_cases c1 : R - (a.size : Int) < 0
 ·exact ev_pos c1 (ev_eq (Ev.now _) (left_no (by omega)).symm)
 refine ev_neg c1 ?_
 rw [w64 (x := R - (a.size : Int) - (b.size : Int)) (by omega) (by omega)]
 by_cases c2 : R - (a.size : Int) - (b.size : Int) < 0
 ·exact ev_pos c2 (ev_eq (Ev.now _) (left_no (by omega)).symm)
 refine ev_neg c2 (ev_bind (szS l hf _ (by omega) (by omega)) ?_)
 by_cases c3 : (total l : Int) ≤ R - (a.size : Int) - (b.size : Int)
 ·rw [if_pos c3]
  refine ev_neg (by omega) (ev_eq (Ev.now _) ?_)
  rw [left_yes (by omega)]; omega
 ·rw [if_neg c3]
  exact ev_pos (by omega) (ev_eq (Ev.now _) (left_no (by omega)).symm)
theorem toBlock (a b : ByteArray) (l : List ByteArray) (hl : l.length ≤ 2000000) : Ev (fun k => laws_toBlock.f k a b l) (a, b, l) := ev_bind (toS l hl) (Ev.now _)
theorem eqBlock (a b : ByteArray) (l : List ByteArray) (hl : l.length ≤ 2000000) : Ev (fun k => laws_eqBlock.f k a b l a b l) true :=
 ev_pos rfl (ev_pos rfl (ev_bind (eqS_yes l hl) (ev_pos rfl (Ev.now _))))
end Go.Proofs.YthhkkhnjkoacnaaDoor.PX
end
section
namespace Go.Proofs.YthhkkhnjkoacnaaDoor.QT
open Go.RowKit Go.Proofs.YthhkkhnjkoacnaaDoorW.PrintWords Go.Proofs.YthhkkhnjkoacnaaDoorW.PrintLast Go.Proofs.YthhkkhnjkoacnaaDoorW.PrintMore Go.Proofs.YthhkkhnjkoacnaaDoor.PB Go.Proofs.YthhkkhnjkoacnaaDoor.PD Go.Proofs.YthhkkhnjkoacnaaDoor.PT Go.Proofs.YthhkkhnjkoacnaaDoor.PU Go.Proofs.YthhkkhnjkoacnaaDoor.PL Go.Proofs.YthhkkhnjkoacnaaDoor.PG Go.Proofs.YthhkkhnjkoacnaaDoor.PX Go.Proofs.YthhkkhnjkoacnaaDoor.PA
set_option linter.unusedVariables false
def numT (n : Int) : ByteArray := ⟨(Go.Lib.decDigits n.toNat).toArray⟩
theorem itoa (n : Int) (h : 0 ≤ n ∧ n ≤ 12) : strconv_Itoa_66.f n = some (numT n) := by
 unfold strconv_Itoa_66.f
 rw [if_pos ⟨h.1, by omega⟩]
 rfl
theorem num_low (n : Int) (h : 0 ≤ n ∧ n < 10) : Ev (fun k => spec_l1Num.f k n) (strOfNums [48 + n]) :=
 Ev.step (f := fun _ => some (strOfNums [48 + n])) (fun k => by simp only [spec_l1Num.f]; rw [if_pos h.2, w64 (x := 48 + n) (by omega) (by omega), show (48 + n) % 256 = 48 + n by omega]) (Ev.now _)
theorem num_high (n m : Int) (h : 10 ≤ n ∧ n ≤ 12) (e1 : Int.tdiv n 10 = 1) (e2 : Int.tmod n 10 = m) (hm : 0 ≤ m ∧ m < 10) : Ev (fun k => spec_l1Num.f k n) (strOfNums [48 + 1] ++ strOfNums [48 + m]) := by
 refine Ev.step (f := fun k => (spec_l1Num.f k 1).bind fun t => if t.size + (strOfNums [48 + m]).size ≤ 9223372036854775807 then some (t ++ strOfNums [48 + m]) else none) (fun k => ?_) (ev_bind (num_low 1 (by omega)) (ev_pos (by rw [strOfNums_size, strOfNums_size]; simp only [List.length_cons, List.length_nil]; omega) (Ev.now _)))
 simp only [spec_l1Num.f]
 rw [if_neg (by omega), e1, e2, w64 (x := (1 : Int)) (by omega) (by omega), w64 (x := 48 + m) (by omega) (by omega), show (48 + m) % 256 = 48 + m by omega]
 rfl
theorem numT_low (i : Nat) (h : i < 10) : strOfNums [48 + (i : Int)] = numT (i : Int) := by
 unfold numT strOfNums
 rw [Int.toNat_natCast, Go.Lib.decDigits_one h]
 rw [List.map_cons, List.map_nil, show ((48 : Int) + (i : Int)).toNat = 48 + i by omega]
theorem numT_high (i : Nat) (h : 10 ≤ i ∧ i ≤ 12) : strOfNums [48 + 1] ++ strOfNums [48 + ((i % 10 : Nat) : Int)] = numT (i : Int) := by
 have hc : i = 10 ∨ i = 11 ∨ i = 12 := by omega
 unfold numT
 rw [Int.toNat_natCast, Go.Lib.decDigits_two (by omega) (by omega)]
 rcases hc with rfl | rfl | rfl <;> rfl
theorem num12 (n : Int) (h : 0 ≤ n ∧ n ≤ 12) : Ev (fun k => spec_l1Num.f k n) (numT n) := by
 obtain ⟨i, rfl⟩ := Int.eq_ofNat_of_zero_le h.1
 by_cases h10 : i < 10
 ·exact ev_eq (num_low (i : Int) (by omega)) (numT_low i h10)
 ·have hc : i = 10 ∨ i = 11 ∨ i = 12 := by omega
  refine ev_eq (num_high (i : Int) ((i % 10 : Nat) : Int) (by omega) ?_ ?_ (by omega)) (numT_high i (by omega))
  ·rcases hc with rfl | rfl | rfl <;> decide
  ·rcases hc with rfl | rfl | rfl <;> decide
theorem num_size (n : Int) (h : 0 ≤ n ∧ n ≤ 12) : (numT n).size ≤ 2 := by
 obtain ⟨i, rfl⟩ := Int.eq_ofNat_of_zero_le h.1
 by_cases h10 : i < 10
 ·rw [← numT_low i h10, strOfNums_size]; simp
 ·rw [← numT_high i (by omega), ByteArray.size_append, strOfNums_size, strOfNums_size]; simp
def sealedM (n : Int) (a b : ByteArray) (l : List ByteArray) : ByteArray × Bool :=
 if (0 ≤ n ∧ n ≤ 12) ∧ blockB a b l = true then (numT n ++ ⟨#[58]⟩ ++ dig 104 (blockM a b l), true) else (⟨#[]⟩, false)
theorem sealedS (n : Int) (a b : ByteArray) (l : List ByteArray) (hl : l.length ≤ 2000000) : Ev (fun k => spec_SealedText.f k n a b l) (sealedM n a b l) := by
 have no : Ev (fun k => spec_SealedText.j0 k n true a b l) (⟨#[]⟩, false) := Ev.step (f := fun _ => some (⟨#[]⟩, false)) (fun k => by simp only [spec_SealedText.j0]; rw [if_pos trivial]) (Ev.now _)
 unfold sealedM
 by_cases h : 0 ≤ n ∧ n ≤ 12
 ·refine ev_const (inS n 0 12) (ev_pos (decide_eq_true h) (ev_bind (goodBlockS a b l hl) ?_))
  cases hb : blockB a b l with
  | false => rw [if_neg (fun e => by cases e.2)]; exact no
  | true =>
   rw [if_pos ⟨h, rfl⟩]
   have hz := num_size n h
   refine Ev.step (f := fun k => _) (fun k => by simp only [Bool.not_true, spec_SealedText.j0]; rfl) ?_
   exact ev_neg (by simp) (ev_bind (num12 n h) (ev_pos (by omega) (ev_bind (digBS a b l hb) (ev_pos (by rw [ByteArray.size_append, dig_size, show (⟨#[58]⟩ : ByteArray).size = 1 from rfl]; omega) (Ev.now _)))))
 ·refine ev_const (inS n 0 12) (ev_neg (by simp [h]) ?_)
  rw [if_neg (fun e => h e.1)]
  exact no
theorem sealedI (n : Int) (a b : ByteArray) (l : List ByteArray) (hl : l.length ≤ 2000000) : Ev (fun k => impl_SealedText.f k n a b l) (sealedM n a b l) := by
 unfold sealedM
 by_cases h : 0 ≤ n ∧ n ≤ 12
 ·refine ev_const (inI n 0 12) (ev_pos (decide_eq_true h) (ev_bind (goodBlockI a b l hl) ?_))
  cases hb : blockB a b l with
  | false => rw [if_neg (fun e => by cases e.2)]; exact ev_neg (by simp) (Ev.now _)
  | true =>
   rw [if_pos ⟨h, rfl⟩]
   have hz := num_size n h
   exact ev_pos rfl (ev_bind (ev_const (itoa n h) (ev_pos (by omega) (ev_bind (digBI a b l hb) (ev_pos (by rw [ByteArray.size_append, dig_size, show (⟨#[58]⟩ : ByteArray).size = 1 from rfl]; omega) (Ev.now _))))) (Ev.now _))
 ·rw [if_neg (fun e => h e.1)]
  exact ev_const (inI n 0 12) (ev_neg (by simp [h]) (Ev.now _))
end Go.Proofs.YthhkkhnjkoacnaaDoor.QT
end
section
namespace Go.Proofs.YthhkkhnjkoacnaaDoor.Pure
open Go.RowKit Go.Proofs.YthhkkhnjkoacnaaDoorW.PrintWords Go.Proofs.YthhkkhnjkoacnaaDoorW.PrintLast Go.Proofs.YthhkkhnjkoacnaaDoorW.PrintMore Go.Proofs.YthhkkhnjkoacnaaDoor.PB Go.Proofs.YthhkkhnjkoacnaaDoor.PL Go.Proofs.YthhkkhnjkoacnaaDoor.PG Go.Proofs.YthhkkhnjkoacnaaDoor.PX Go.Proofs.YthhkkhnjkoacnaaDoor.QT Go.Proofs.YthhkkhnjkoacnaaDoor.PA
set_option linter.unusedVariables false
theorem FnExactSealedText (n : Int) (a b : ByteArray) (l : List ByteArray) (hn : (Lit.int .i64 n).wf = true) (hf : a.size ≤ maxLen ∧ b.size ≤ maxLen ∧ (l.length ≤ maxLen ∧ ∀ s ∈ l, s.size ≤ maxLen)) : ∃ k, laws_FnExactSealedText.f k n a b l = some true := by
 refine Ev.rounds ?_
 unfold laws_FnExactSealedText.f
 have hz := szBlock a b l hf.1 hf.2.1 hf.2.2 1048576 (by omega) (by omega)
 by_cases ht : ((a.size + b.size + total l : Nat) : Int) ≤ 1048576
 ·rw [left_yes ht] at hz
  have hl : l.length ≤ 2000000 := by unfold total at ht; omega
  refine ev_bind hz (ev_neg (by omega) (ev_bind (toBlock a b l hl) (ev_bind (sealedS n a b l hl) (ev_bind (toBlock a b l hl) (ev_bind (sealedI n a b l hl) (ev_pos rfl ?_))))))
  simp only [bne_self_eq_false]
  refine Ev.step (f := fun k => _) (fun k => by simp only [laws_FnExactSealedText.j0]; rfl) ?_
  exact ev_neg (by simp) (ev_bind (toBlock a b l hl) (ev_bind (eqBlock a b l hl) (ev_pos rfl (Ev.now _))))
 ·rw [left_no ht] at hz
  exact ev_bind hz (ev_pos (by omega) (Ev.now _))
end Go.Proofs.YthhkkhnjkoacnaaDoor.Pure
end
section
namespace Go.Proofs.YthhkkhnjkoacnaaDoor.RO
open Go.RowKit Go.Proofs.YthhkkhnjkoacnaaDoorW.PrintWords Go.ChangeShapes Go.WideShapes
set_option linter.unusedVariables false
def Opn (P : Program) (W : World) (e : TypeId) {α : Type} (d : Kd α) (G : α → Prop) : Prop :=
 ∀ {H : Type} {enc : TypeId × Value → H} {base : Nat} {spare : Nat → Bool} {held : Bool} {n : Nat} {cs : List Value} {x : DataW H × List MemPlace},
  DataW.trod enc P W base spare held n e cs = some x → ∃ y : α, d.K W y cs ∧ G y
section
variable {P : Program} {W : World} {e t : TypeId}
theorem op_string (he : P.underlying e = some .string) : Opn P W e Kd.string (fun s => s.size ≤ maxLen) := by
 intro H enc base spare held n cs x h
 obtain ⟨s, rfl, _, hs⟩ := DataW.trod_string he h
 exact ⟨s, rfl, hs⟩
theorem pick {α : Type} {p : Nat → α → Prop} : ∀ (n : Nat), (∀ i, i < n → ∃ y, p i y) → ∃ ys : List α, ys.length = n ∧ ∀ i y, ys[i]? = some y → p i y := by
 intro n
 induction n with
 | zero => intro _; exact ⟨[], rfl, fun i y h => by simp at h⟩
 | succ n ih =>
  intro h
  obtain ⟨ys, hl, hp⟩ := ih (fun i hi => h i (by omega))
  obtain ⟨y, hy⟩ := h n (by omega)
  refine ⟨ys ++ [y], by simp [hl], fun i z hz => ?_⟩
  by_cases hi : i < n
  ·rw [List.getElem?_append_left (by omega)] at hz
   exact hp i z hz
  ·rw [List.getElem?_append_right (by omega)] at hz
   have : i = n := by
    rcases Nat.lt_or_ge (i - ys.length) 1 with h1 | h1
    ·omega
    ·rw [List.getElem?_eq_none (by simpa using h1)] at hz; cases hz
   subst this
   rw [hl, Nat.sub_self] at hz
   simp at hz
   subst hz
   exact hy
theorem op_slice {α : Type} {d : Kd α} {G : α → Prop} (ht : P.underlying t = some (.slice e)) (hc : P.cellsOf e = d.sz) (ho : Opn P W e d G) : Opn P W t (Kd.slice e d) (fun l => l.length ≤ maxLen ∧ ∀ x ∈ l, G x) := by
 intro H enc base spare held n cs x h
 rcases Deep.open_slice ht h with ⟨rfl, _⟩ | ⟨a, len, cap, m, n', D, Pl, rfl, _, hl, hm, hmm, _, hx⟩
 ·exact ⟨[], ⟨none, 0, rfl, Nat.le_refl _, Kd.C_nil _ _⟩, by simp [maxLen], fun x hx => by cases hx⟩
 ·obtain ⟨ys, hyl, hy⟩ := pick (p := fun i y => ∃ c, c.length = d.sz ∧ d.K W y c ∧ G y ∧ ∀ j u, c[j]? = some u → W.cell? (a.add (i * d.sz + j)) = some u) len (fun i hi => by
   have him : i < m := by rw [hmm]; split <;> omega
   obtain ⟨c, h1, h2⟩ := hx i him
   obtain ⟨y, hk, hg⟩ := ho h2
   obtain ⟨_, hcl, hcell⟩ := World.cells?_some h1
   rw [hc] at hcl hcell
   refine ⟨y, c, hcl, hk, hg, fun j u hj => ?_⟩
   have hj' : j < d.sz := by rw [← hcl]; exact (List.getElem?_eq_some_iff.1 hj).1
   have := hcell j hj'
   rw [hj] at this
   rw [← this]
   congr 1
   have e0 : ∀ p q : Nat, (a.add p).add q = a.add (p + q) := by
    intro p q
    obtain ⟨b, o, s⟩ := a
    unfold Addr.add
    by_cases hp : p = 0
    ·subst hp; simp
    ·by_cases hq : q = 0
     ·subst hq; simp [hp]
     ·simp [hp, hq]; omega
   rw [e0])
  refine ⟨ys, ⟨some a, cap, by rw [hyl], by omega, rfl, by rw [hyl]; unfold maxLen at hm; omega, fun h0 => ⟨a, rfl, fun j p hj => ?_⟩⟩, by rw [hyl]; omega, fun x hx => ?_⟩
  ·obtain ⟨c, h1, h2, _, h3⟩ := hy j p hj
   exact ⟨c, h1, h2, h3⟩
  ·obtain ⟨i, hi⟩ := List.getElem?_of_mem hx
   obtain ⟨c, _, _, h, _⟩ := hy i x hi
   exact h
def OpAt (P : Program) (W : World) (fs : List (TypeId × Nat)) (off : Nat) {α : Type} (d : Kd α) (G : α → Prop) : Prop :=
 ∀ {H : Type} {enc : TypeId × Value → H} {base : Nat} {spare : Nat → Bool} {held : Bool} {n : Nat} {cs : List Value}, cs.length = off + d.sz →
  (∀ f ∈ fs, ∃ x, DataW.trod enc P W base spare held n f.1 ((cs.drop f.2).take (P.cellsOf f.1)) = some x) → ∃ y : α, d.K W y (cs.drop off) ∧ G y
theorem opAt_one {off : Nat} {α : Type} {d : Kd α} {G : α → Prop} (hc : P.cellsOf e = d.sz) (h : Opn P W e d G) : OpAt P W [(e, off)] off d G := by
 intro H enc base spare held n cs hl hf
 obtain ⟨x, hx⟩ := hf (e, off) (List.mem_singleton.2 rfl)
 dsimp only at hx
 rw [hc, List.take_of_length_le (by rw [List.length_drop]; omega)] at hx
 exact h hx
theorem opAt_cons {off : Nat} {fs : List (TypeId × Nat)} {α β : Type} {d1 : Kd α} {d2 : Kd β} {G1 : α → Prop} {G2 : β → Prop} (hc : P.cellsOf e = d1.sz) (h1 : Opn P W e d1 G1) (h2 : OpAt P W fs (off + d1.sz) d2 G2) :
  OpAt P W ((e, off) :: fs) off (Kd.pair d1 d2) (fun y => G1 y.1 ∧ G2 y.2) := by
 intro H enc base spare held n cs hl hf
 have hl' : cs.length = off + (d1.sz + d2.sz) := hl
 obtain ⟨x, hx⟩ := hf (e, off) List.mem_cons_self
 dsimp only at hx
 rw [hc] at hx
 obtain ⟨y1, hk1, hg1⟩ := h1 hx
 obtain ⟨y2, hk2, hg2⟩ := h2 (cs := cs) (by omega) (fun f hf' => hf f (List.mem_cons_of_mem _ hf'))
 refine ⟨(y1, y2), ⟨(cs.drop off).take d1.sz, cs.drop (off + d1.sz), ?_, hk1, hk2⟩, hg1, hg2⟩
 rw [← List.drop_drop, List.take_append_drop]
theorem op_struct {fs : Array Field} {L : List (TypeId × Nat)} {α β : Type} {d : Kd α} {f : β → α} {g : α → β} {G : α → Prop} (ht : P.underlying t = some (.struct fs)) (hL : fs.toList.map (fun f => (f.type, f.offset)) = L) (hc : P.cellsOf t = d.sz) (hfg : ∀ y, f (g y) = y)
  (h : OpAt P W L 0 d G) : Opn P W t (Kd.iso d f) (fun x => G (f x)) := by
 intro H enc base spare held n cs x hx
 obtain ⟨xs, m, _, _, hl, hxl, hf⟩ := DataW.trod_struct ht hx
 obtain ⟨y, hk, hg⟩ := h (cs := cs) (n := m) (enc := enc) (base := base) (spare := spare) (held := held) (by rw [hl, hc]; omega) (fun q hq => by
  rw [← hL] at hq
  obtain ⟨fd, hfd, rfl⟩ := List.mem_map.1 hq
  obtain ⟨i, hi⟩ := List.getElem?_of_mem hfd
  rw [Array.getElem?_toList] at hi
  have hlt : i < xs.length := by
   have := (Array.getElem?_eq_some_iff.1 hi).1
   omega
  exact ⟨xs[i], by rw [hf i fd hi]; exact List.getElem?_eq_getElem hlt⟩)
 rw [List.drop_zero] at hk
 refine ⟨g y, ?_, ?_⟩
 ·show d.K W (f (g y)) cs
  rw [hfg]; exact hk
 ·show G (f (g y))
  rw [hfg]; exact hg
theorem op_struct0 {fs : Array Field} {L : List (TypeId × Nat)} {α : Type} {d : Kd α} {G : α → Prop} (ht : P.underlying t = some (.struct fs)) (hL : fs.toList.map (fun f => (f.type, f.offset)) = L) (hc : P.cellsOf t = d.sz)
  (h : OpAt P W L 0 d G) : Opn P W t d G := by
 intro H enc base spare held n cs x hx
 exact op_struct (d := d) (f := fun y : α => y) (g := fun y => y) ht hL hc (fun _ => rfl) h hx
end
theorem agg_of_cells {v : Value} {l : List Value} (h : v.cells.toList = l) (hl : 2 ≤ l.length) : v = .agg l.toArray := by
 cases v <;> simp only [Value.cells] at h
 case agg cs => subst h; simp
 all_goals (subst h; simp at hl)
end Go.Proofs.YthhkkhnjkoacnaaDoor.RO
end
