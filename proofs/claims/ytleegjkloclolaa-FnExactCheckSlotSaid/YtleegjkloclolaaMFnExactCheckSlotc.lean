/- For the law FnExactCheckSlot: what it needs of the words, of the printed functions and of the plain laws, in few texts (laid by merge.py of this workplace). -/
import Derived.Test.YtleegjkloclolaaMFnExactCheckSlotb
import Derived.Laws.BitsLemmas
import Derived.Deep.Slices
import Derived.ChangeArms
import Derived.DataReads
section
namespace Go.Proofs.Ytleegjkloclolaa.PA
open Go.RowKit Go.Proofs.YtleegjkloclolaaW.PrintWords Go.Proofs.YtleegjkloclolaaW.PrintLast Go.Proofs.YtleegjkloclolaaW.PrintMore
attribute [local go_sem] max2_int min2_int max_two min_two max_three min_three max_four min_four   -- for this text's walks alone
set_option linter.unusedVariables false
set_option linter.unusedSimpArgs false
def laws_toSlot.f (a0_0 : ByteArray) (a0_1 : ByteArray) (a0_2 : ByteArray) (a0_3 : ByteArray) (a0_4 : Bool) : Option (ByteArray × ByteArray × ByteArray × ByteArray × Bool) := some (a0_0, a0_1, a0_2, a0_3, a0_4)
set_option maxHeartbeats 8000000 in
set_option maxRecDepth 100000 in
theorem laws_toSlot.calls (a0_0 : ByteArray) (a0_1 : ByteArray) (a0_2 : ByteArray) (a0_3 : ByteArray) (a0_4 : Bool) (r1 : ByteArray) (r2 : ByteArray) (r3 : ByteArray) (r4 : ByteArray) (r5 : Bool) (w : World) (h : laws_toSlot.f a0_0 a0_1 a0_2 a0_3 a0_4 = some (r1, r2, r3, r4, r5)) :
  Calls Try.prog 48 #[.agg #[.string a0_0, .string a0_1, .string a0_2, .string a0_3, .bool a0_4]] w fun e w' => e = .returned (.agg #[.string r1, .string r2, .string r3, .string r4, .bool r5]) ∧ Below w.heap.size w w' := by
 have hu64 := Try.underlying64
 have hu67 := Try.underlying67
 have HB := Aside0.mk (Below.refl w.heap.size w)
 have H : (some (a0_0, a0_1, a0_2, a0_3, a0_4)) = some (r1, r2, r3, r4, r5) := h
 clear h
 simp only [Option.some.injEq, Prod.mk.injEq] at H
 obtain ⟨rfl, rfl, rfl, rfl, rfl⟩ := H
 go_enter Try.func48, Try.ntmps48
 go_wp2_with (first | ((with_reducible refine gate_dst (N := 1) rfl ?_); refine box_event ?hg (N := 1) ?hd (cs := #[.string a0_0, .string a0_1, .string a0_2, .string a0_3, .bool a0_4]) (t := 64) ?hr ?_; (case hd => rfl); (case hg => rfl); (case hr => first | (go_simp; done) | (go_simp; rfl)); intro gb681 hg w2 hbox hb; have n0_ := Aside0.mk (below_step (by repeat (first | (with_reducible first | exact HB.out | apply below_alloc | apply pw_below_drewN | apply below_drew1) | exact HB.out)) hb); have n1_ := Aside0.mk (hbox); have n2_ := Aside0.mk ((by rw [hg]; exact (below_size (by repeat (first | (with_reducible first | exact HB.out | apply below_alloc | apply pw_below_drewN | apply below_drew1) | exact HB.out))) : w.heap.size ≤ gb681)); have n3_ := Aside0.mk ((by rw [hg]; exact (below_size (by repeat (first | (with_reducible first | exact HB.out | apply below_alloc | apply pw_below_drewN | apply below_drew1) | exact HB.out))) : w.heap.size ≤ gb681)); clear HB; have HB := n0_; have BK681 := n1_; have GW681 := n2_; have GE681 := n3_; clear n0_ n1_ n2_ n3_; clear hb hbox hg) | ((with_reducible refine gate_dst (N := 2) rfl ?_); refine box_event ?hg (N := 2) ?hd (cs := #[.string (⟨#[]⟩ : ByteArray), .string (⟨#[]⟩ : ByteArray), .string (⟨#[]⟩ : ByteArray), .string (⟨#[]⟩ : ByteArray), .bool false]) (t := 67) ?hr ?_; (case hd => rfl); (case hg => rfl); (case hr => first | (go_simp; done) | (go_simp; rfl)); intro gb682 hg w3 hbox hb; have n0_ := Aside0.mk (blk_below (g := gb681) (o := .cells #[.string a0_0, .string a0_1, .string a0_2, .string a0_3, .bool a0_4] 64 (0, 0)) (by (with_reducible repeat (first | refine blk_drewN ?_ _ | refine blk_drew ?_ | refine blk_alloc ?_ _)); exact BK681.out) hb); have n1_ := Aside0.mk (below_step (by repeat (first | (with_reducible first | exact HB.out | apply below_alloc | apply pw_below_drewN | apply below_drew1 | refine below_set ?_ GE681.out) | exact HB.out)) hb); have n2_ := Aside0.mk (hbox); have n3_ := Aside0.mk ((by rw [hg]; exact (below_size (by repeat (first | (with_reducible first | exact HB.out | apply below_alloc | apply pw_below_drewN | apply below_drew1 | refine below_set ?_ GE681.out) | exact HB.out))) : w.heap.size ≤ gb682)); have n4_ := Aside0.mk ((by rw [hg]; exact (below_size (by repeat (first | (with_reducible first | exact HB.out | apply below_alloc | apply pw_below_drewN | apply below_drew1 | refine below_set ?_ GE681.out) | exact HB.out))) : w.heap.size ≤ gb682)); have n5_ := Aside0.mk ((by rw [hg]; exact Nat.ne_of_lt (blk_lt (g := gb681) (o := .cells #[.string a0_0, .string a0_1, .string a0_2, .string a0_3, .bool a0_4] 64 (0, 0)) (by (with_reducible repeat (first | refine blk_drewN ?_ _ | refine blk_drew ?_ | refine blk_alloc ?_ _)); exact BK681.out)) : gb681 ≠ gb682)); have n6_ := Aside0.mk ((by rw [hg]; exact Nat.ne_of_gt (blk_lt (g := gb681) (o := .cells #[.string a0_0, .string a0_1, .string a0_2, .string a0_3, .bool a0_4] 64 (0, 0)) (by (with_reducible repeat (first | refine blk_drewN ?_ _ | refine blk_drew ?_ | refine blk_alloc ?_ _)); exact BK681.out)) : gb682 ≠ gb681)); clear BK681; clear HB; have BK681 := n0_; have HB := n1_; have BK682 := n2_; have GW682 := n3_; have GE682 := n4_; have NB681_682 := n5_; have NB682_681 := n6_; clear n0_ n1_ n2_ n3_ n4_ n5_ n6_; clear hb hbox hg) | ((with_reducible refine gate_dst (N := 3) rfl ?_); refine box_event ?hg (N := 3) ?hd (cs := #[.string (⟨#[]⟩ : ByteArray), .string (⟨#[]⟩ : ByteArray), .string (⟨#[]⟩ : ByteArray), .string (⟨#[]⟩ : ByteArray), .bool false]) (t := 67) ?hr ?_; (case hd => rfl); (case hg => rfl); (case hr => first | (go_simp; done) | (go_simp; rfl)); intro gb683 hg w4 hbox hb; have n0_ := Aside0.mk (blk_below (g := gb681) (o := .cells #[.string a0_0, .string a0_1, .string a0_2, .string a0_3, .bool a0_4] 64 (0, 0)) (by (with_reducible repeat (first | refine blk_drewN ?_ _ | refine blk_drew ?_ | refine blk_alloc ?_ _)); exact BK681.out) hb); have n1_ := Aside0.mk (blk_below (g := gb682) (o := .cells #[.string (⟨#[]⟩ : ByteArray), .string (⟨#[]⟩ : ByteArray), .string (⟨#[]⟩ : ByteArray), .string (⟨#[]⟩ : ByteArray), .bool false] 67 (0, 0)) (by (with_reducible repeat (first | refine blk_drewN ?_ _ | refine blk_drew ?_ | refine blk_alloc ?_ _)); exact BK682.out) hb); have n2_ := Aside0.mk (below_step (by repeat (first | (with_reducible first | exact HB.out | apply below_alloc | apply pw_below_drewN | apply below_drew1 | refine below_set ?_ GE681.out | refine below_set ?_ GE682.out) | exact HB.out)) hb); have n3_ := Aside0.mk (hbox); have n4_ := Aside0.mk ((by rw [hg]; exact (below_size (by repeat (first | (with_reducible first | exact HB.out | apply below_alloc | apply pw_below_drewN | apply below_drew1 | refine below_set ?_ GE681.out | refine below_set ?_ GE682.out) | exact HB.out))) : w.heap.size ≤ gb683)); have n5_ := Aside0.mk ((by rw [hg]; exact (below_size (by repeat (first | (with_reducible first | exact HB.out | apply below_alloc | apply pw_below_drewN | apply below_drew1 | refine below_set ?_ GE681.out | refine below_set ?_ GE682.out) | exact HB.out))) : w.heap.size ≤ gb683)); have n6_ := Aside0.mk ((by rw [hg]; exact Nat.ne_of_lt (blk_lt (g := gb681) (o := .cells #[.string a0_0, .string a0_1, .string a0_2, .string a0_3, .bool a0_4] 64 (0, 0)) (by (with_reducible repeat (first | refine blk_drewN ?_ _ | refine blk_drew ?_ | refine blk_alloc ?_ _)); exact BK681.out)) : gb681 ≠ gb683)); have n7_ := Aside0.mk ((by rw [hg]; exact Nat.ne_of_gt (blk_lt (g := gb681) (o := .cells #[.string a0_0, .string a0_1, .string a0_2, .string a0_3, .bool a0_4] 64 (0, 0)) (by (with_reducible repeat (first | refine blk_drewN ?_ _ | refine blk_drew ?_ | refine blk_alloc ?_ _)); exact BK681.out)) : gb683 ≠ gb681)); have n8_ := Aside0.mk ((by rw [hg]; exact Nat.ne_of_lt (blk_lt (g := gb682) (o := .cells #[.string (⟨#[]⟩ : ByteArray), .string (⟨#[]⟩ : ByteArray), .string (⟨#[]⟩ : ByteArray), .string (⟨#[]⟩ : ByteArray), .bool false] 67 (0, 0)) (by (with_reducible repeat (first | refine blk_drewN ?_ _ | refine blk_drew ?_ | refine blk_alloc ?_ _)); exact BK682.out)) : gb682 ≠ gb683)); have n9_ := Aside0.mk ((by rw [hg]; exact Nat.ne_of_gt (blk_lt (g := gb682) (o := .cells #[.string (⟨#[]⟩ : ByteArray), .string (⟨#[]⟩ : ByteArray), .string (⟨#[]⟩ : ByteArray), .string (⟨#[]⟩ : ByteArray), .bool false] 67 (0, 0)) (by (with_reducible repeat (first | refine blk_drewN ?_ _ | refine blk_drew ?_ | refine blk_alloc ?_ _)); exact BK682.out)) : gb683 ≠ gb682)); clear BK681; clear BK682; clear HB; have BK681 := n0_; have BK682 := n1_; have HB := n2_; have BK683 := n3_; have GW683 := n4_; have GE683 := n5_; have NB681_683 := n6_; have NB683_681 := n7_; have NB682_683 := n8_; have NB683_682 := n9_; clear n0_ n1_ n2_ n3_ n4_ n5_ n6_ n7_ n8_ n9_; clear hb hbox hg; have hnb5 := NB681_682.out; have hnc5 := NB682_681.out; have hnb6 := NB681_683.out; have hnc6 := NB683_681.out; have hcz7_0 : w4.cell? ⟨gb681, 0, none⟩ = some (.string a0_0) := (blk_cell BK681.out 0).trans rfl; have hcz7_1 : w4.cell? ⟨gb681, 1, none⟩ = some (.string a0_1) := (blk_cell BK681.out 1).trans rfl; have hcz7_2 : w4.cell? ⟨gb681, 2, none⟩ = some (.string a0_2) := (blk_cell BK681.out 2).trans rfl; have hcz7_3 : w4.cell? ⟨gb681, 3, none⟩ = some (.string a0_3) := (blk_cell BK681.out 3).trans rfl; have hcz7_4 : w4.cell? ⟨gb681, 4, none⟩ = some (.bool a0_4) := (blk_cell BK681.out 4).trans rfl; have hfz7_0 := blk_frozen BK681.out 0; have hfz7_1 := blk_frozen BK681.out 1; have hfz7_2 := blk_frozen BK681.out 2; have hfz7_3 := blk_frozen BK681.out 3; have hfz7_4 := blk_frozen BK681.out 4; have hnb8 := NB683_682.out; have hnc8 := NB682_683.out; have hcz9_0 : w4.cell? ⟨gb683, 0, none⟩ = some (.string (⟨#[]⟩ : ByteArray)) := (blk_cell BK683.out 0).trans rfl; have hcz9_1 : w4.cell? ⟨gb683, 1, none⟩ = some (.string (⟨#[]⟩ : ByteArray)) := (blk_cell BK683.out 1).trans rfl; have hcz9_2 : w4.cell? ⟨gb683, 2, none⟩ = some (.string (⟨#[]⟩ : ByteArray)) := (blk_cell BK683.out 2).trans rfl; have hcz9_3 : w4.cell? ⟨gb683, 3, none⟩ = some (.string (⟨#[]⟩ : ByteArray)) := (blk_cell BK683.out 3).trans rfl; have hcz9_4 : w4.cell? ⟨gb683, 4, none⟩ = some (.bool false) := (blk_cell BK683.out 4).trans rfl; have hfz9_0 := blk_frozen BK683.out 0; have hfz9_1 := blk_frozen BK683.out 1; have hfz9_2 := blk_frozen BK683.out 2; have hfz9_3 := blk_frozen BK683.out 3; have hfz9_4 := blk_frozen BK683.out 4; have hcz10_0 : w4.cell? ⟨gb682, 0, none⟩ = some (.string (⟨#[]⟩ : ByteArray)) := (blk_cell BK682.out 0).trans rfl; have hcz10_1 : w4.cell? ⟨gb682, 1, none⟩ = some (.string (⟨#[]⟩ : ByteArray)) := (blk_cell BK682.out 1).trans rfl; have hcz10_2 : w4.cell? ⟨gb682, 2, none⟩ = some (.string (⟨#[]⟩ : ByteArray)) := (blk_cell BK682.out 2).trans rfl; have hcz10_3 : w4.cell? ⟨gb682, 3, none⟩ = some (.string (⟨#[]⟩ : ByteArray)) := (blk_cell BK682.out 3).trans rfl; have hcz10_4 : w4.cell? ⟨gb682, 4, none⟩ = some (.bool false) := (blk_cell BK682.out 4).trans rfl; have hfz10_0 := blk_frozen BK682.out 0; have hfz10_1 := blk_frozen BK682.out 1; have hfz10_2 := blk_frozen BK682.out 2; have hfz10_3 := blk_frozen BK682.out 3; have hfz10_4 := blk_frozen BK682.out 4))
 refine bodyPost_ret (results_cell_row rfl _ _ gb682 67 #[.string a0_0, .string a0_1, .string a0_2, .string a0_3, .bool a0_4] (0, 0) _ rfl (by (with_reducible repeat (first | refine blk_drewN ?_ _ | refine blk_drew ?_ | refine blk_alloc ?_ _)); refine blk_put (cs := #[.string a0_0, .string a0_1, .string a0_2, .string a0_3, .bool false]) ?_ 4 _ rfl; (with_reducible repeat (first | refine blk_drewN ?_ _ | refine blk_drew ?_ | refine blk_alloc ?_ _)); refine blk_put (cs := #[.string a0_0, .string a0_1, .string a0_2, .string (⟨#[]⟩ : ByteArray), .bool false]) ?_ 3 _ rfl; (with_reducible repeat (first | refine blk_drewN ?_ _ | refine blk_drew ?_ | refine blk_alloc ?_ _)); refine blk_put (cs := #[.string a0_0, .string a0_1, .string (⟨#[]⟩ : ByteArray), .string (⟨#[]⟩ : ByteArray), .bool false]) ?_ 2 _ rfl; (with_reducible repeat (first | refine blk_drewN ?_ _ | refine blk_drew ?_ | refine blk_alloc ?_ _)); refine blk_put (cs := #[.string a0_0, .string (⟨#[]⟩ : ByteArray), .string (⟨#[]⟩ : ByteArray), .string (⟨#[]⟩ : ByteArray), .bool false]) ?_ 1 _ rfl; (with_reducible repeat (first | refine blk_drewN ?_ _ | refine blk_drew ?_ | refine blk_alloc ?_ _)); refine blk_put (cs := #[.string (⟨#[]⟩ : ByteArray), .string (⟨#[]⟩ : ByteArray), .string (⟨#[]⟩ : ByteArray), .string (⟨#[]⟩ : ByteArray), .bool false]) ?_ 0 _ rfl; (with_reducible repeat (first | refine blk_drewN ?_ _ | refine blk_drew ?_ | refine blk_alloc ?_ _)); refine blk_far ?_ NB682_683.out _; (with_reducible repeat (first | refine blk_drewN ?_ _ | refine blk_drew ?_ | refine blk_alloc ?_ _)); refine blk_far ?_ NB682_683.out _; (with_reducible repeat (first | refine blk_drewN ?_ _ | refine blk_drew ?_ | refine blk_alloc ?_ _)); refine blk_far ?_ NB682_683.out _; (with_reducible repeat (first | refine blk_drewN ?_ _ | refine blk_drew ?_ | refine blk_alloc ?_ _)); refine blk_far ?_ NB682_683.out _; (with_reducible repeat (first | refine blk_drewN ?_ _ | refine blk_drew ?_ | refine blk_alloc ?_ _)); refine blk_far ?_ NB682_683.out _; (with_reducible repeat (first | refine blk_drewN ?_ _ | refine blk_drew ?_ | refine blk_alloc ?_ _)); exact BK682.out) Try.underlying67 rfl (by kernel_rfl)) rfl ?_
 exact ⟨by first | rfl | (simp [errW_none, errW_some] <;> rfl) | (simp [*, errW_none, errW_some] <;> rfl), by repeat (first | (with_reducible first | exact HB.out | apply below_alloc | apply pw_below_drewN | apply below_drew1 | refine below_set ?_ GE681.out | refine below_set ?_ GE682.out | refine below_set ?_ GE683.out) | exact HB.out)⟩
def impl_isName.f (a0 : ByteArray) : Option (Bool) := (impl_within.f (a0.size : Int) 1 8).bind fun t684 => (some t684)
set_option maxHeartbeats 8000000 in
set_option maxRecDepth 100000 in
theorem impl_isName.calls (a0 : ByteArray) (r : Bool) (w : World) (h : impl_isName.f a0 = some r) :
  Calls Try.prog 137 #[.string a0] w fun e w' => e = .returned (.bool r) ∧ Drawn0 w w' := by
 have H : ((impl_within.f (a0.size : Int) 1 8).bind fun t684 => (some t684)) = some r := h
 clear h
 replace H := Option.bind_eq_some_iff.mp H
 obtain ⟨t684, A20, H⟩ := H
 replace H : (some t684) = some r := H
 have A2 := Aside0.mk A20
 clear A20
 obtain rfl := Option.some.inj H
 go_enter Try.func137, Try.ntmps137
 go_wp2_with (first | ((with_reducible refine gate_callee (f := 99) rfl ?_); refine goesL_ (some 5) rfl rfl Try.func99 (by kernel_rfl) rfl #[.int .i64 (a0.size : Int), .int .i64 1, .int .i64 8] rfl (by (try simp only [List.map_toArray, List.map_cons, List.map_nil]); first | done | rfl | (simp only [List.length_drop, List.length_take]; rfl)) ?_; (with_reducible refine (impl_within.calls (a0.size : Int) 1 8 t684 _ A2.out).mono ?_); rintro e w' ⟨rfl, ⟨nd, rfl⟩⟩; refine ⟨_, rfl, ?_⟩))
 go_ret
 exact ⟨by first | rfl | (simp; done) | (simp [*]; done) | (simp [bne]; done), by repeat (first | exact Drawn0.refl _ | apply Drawn0.step)⟩
def impl_CommitOf.f (k : Nat) (a0 : ByteArray) (a1 : ByteArray) (a2 : ByteArray) : Option (ByteArray × Bool) := (impl_isName.f a0).bind fun t685 => (if t685 = true then ((impl_isName.f a1).bind fun t686 => (if t686 = true then (if (a2.size : Int) > 40 then (some ((⟨#[]⟩ : ByteArray), false)) else ((impl_ListDigest.f k 98 (([a0, a1, a2] : List ByteArray))).bind fun bt690 => (some (bt690.1, bt690.2)))) else (some ((⟨#[]⟩ : ByteArray), false)))) else (some ((⟨#[]⟩ : ByteArray), false)))
set_option maxHeartbeats 8000000 in
set_option maxRecDepth 100000 in
theorem impl_CommitOf.calls (k : Nat) (a0 : ByteArray) (a1 : ByteArray) (a2 : ByteArray) (r1 : ByteArray) (r2 : Bool) (w : World) (h : impl_CommitOf.f k a0 a1 a2 = some (r1, r2)) :
  Calls Try.prog 138 #[.string a0, .string a1, .string a2] w fun e w' => e = .returned (.tuple #[.string r1, .bool r2]) ∧ Below w.heap.size w w' := by
 have HB := Aside0.mk (Below.refl w.heap.size w)
 have H : ((impl_isName.f a0).bind fun t685 => (if t685 = true then ((impl_isName.f a1).bind fun t686 => (if t686 = true then (if (a2.size : Int) > 40 then (some ((⟨#[]⟩ : ByteArray), false)) else ((impl_ListDigest.f k 98 (([a0, a1, a2] : List ByteArray))).bind fun bt690 => (some (bt690.1, bt690.2)))) else (some ((⟨#[]⟩ : ByteArray), false)))) else (some ((⟨#[]⟩ : ByteArray), false)))) = some (r1, r2) := h
 clear h
 replace H := Option.bind_eq_some_iff.mp H
 obtain ⟨t685, A40, H⟩ := H
 replace H : (if t685 = true then ((impl_isName.f a1).bind fun t686 => (if t686 = true then (if (a2.size : Int) > 40 then (some ((⟨#[]⟩ : ByteArray), false)) else ((impl_ListDigest.f k 98 (([a0, a1, a2] : List ByteArray))).bind fun bt690 => (some (bt690.1, bt690.2)))) else (some ((⟨#[]⟩ : ByteArray), false)))) else (some ((⟨#[]⟩ : ByteArray), false))) = some (r1, r2) := H
 have A4 := Aside0.mk A40
 clear A40
 by_cases c5 : t685 = true
 ·subst c5
  have H1 : ((impl_isName.f a1).bind fun t686 => (if t686 = true then (if (a2.size : Int) > 40 then (some ((⟨#[]⟩ : ByteArray), false)) else ((impl_ListDigest.f k 98 (([a0, a1, a2] : List ByteArray))).bind fun bt690 => (some (bt690.1, bt690.2)))) else (some ((⟨#[]⟩ : ByteArray), false)))) = some (r1, r2) := by rw [if_pos rfl] at H; exact H
  clear H
  have H := H1
  clear H1
  replace H := Option.bind_eq_some_iff.mp H
  obtain ⟨t686, A60, H⟩ := H
  replace H : (if t686 = true then (if (a2.size : Int) > 40 then (some ((⟨#[]⟩ : ByteArray), false)) else ((impl_ListDigest.f k 98 (([a0, a1, a2] : List ByteArray))).bind fun bt690 => (some (bt690.1, bt690.2)))) else (some ((⟨#[]⟩ : ByteArray), false))) = some (r1, r2) := H
  have A6 := Aside0.mk A60
  clear A60
  by_cases c7 : t686 = true
  ·subst c7
   have H1 : (if (a2.size : Int) > 40 then (some ((⟨#[]⟩ : ByteArray), false)) else ((impl_ListDigest.f k 98 (([a0, a1, a2] : List ByteArray))).bind fun bt690 => (some (bt690.1, bt690.2)))) = some (r1, r2) := by rw [if_pos rfl] at H; exact H
   clear H
   have H := H1
   clear H1
   by_cases c8 : (a2.size : Int) > 40
   ·rw [if_pos c8] at H
    have c8b0 : decide (40 < (a2.size : Int)) = true := decide_eq_true c8
    have c8b1 : decide (40 < a2.size) = true := decide_eq_true (by omega)
    clear c8
    simp only [Option.some.injEq, Prod.mk.injEq] at H
    obtain ⟨rfl, rfl⟩ := H
    go_enter Try.func138, Try.ntmps138
    go_wp2_with (first | ((with_reducible refine gate_callee (f := 137) rfl ?_); refine goesL_ (some 9) rfl rfl Try.func137 (by kernel_rfl) rfl #[.string a0] rfl (by (try simp only [List.map_toArray, List.map_cons, List.map_nil]); first | done | rfl | (simp only [List.length_drop, List.length_take]; rfl)) ?_; (with_reducible refine (impl_isName.calls a0 true _ A4.out).mono ?_); rintro e w' ⟨rfl, ⟨nd, rfl⟩⟩; refine ⟨_, rfl, ?_⟩) | (go_at_call 137; (with_reducible refine (impl_isName.calls a1 true _ A6.out).mono ?_); rintro e w' ⟨rfl, ⟨nd, rfl⟩⟩))
    go_ret2
    exact ⟨by first | rfl | (simp [errW_none, errW_some] <;> rfl) | (simp [*, errW_none, errW_some] <;> rfl), by repeat (first | (with_reducible first | exact HB.out | apply below_alloc | apply pw_below_drewN | apply below_drew1) | exact HB.out)⟩
   ·rw [if_neg c8] at H
    have c8b0 : decide (40 < (a2.size : Int)) = false := decide_eq_false c8
    have c8b1 : decide (40 < a2.size) = false := decide_eq_false (by omega)
    clear c8
    obtain ⟨y687, hy687⟩ : ∃ y_ : List ByteArray, y_ = (([a0, a1, a2] : List ByteArray)) := ⟨_, rfl⟩
    replace H : ((impl_ListDigest.f k 98 y687).bind fun bt690 => (some (bt690.1, bt690.2))) = some (r1, r2) := by first | (rw [hy687]; with_reducible exact H) | (have H2_ := (Option.bind_some _ _).symm.trans H; rw [hy687]; with_reducible exact H2_) | (have H2_ := (Option.bind_some _ _).symm.trans H; with_reducible exact H2_) | with_reducible exact H | (rw [hy687]; exact H) | exact H
    have Ny687 := Aside0.mk hy687
    clear hy687
    replace H := Option.bind_eq_some_iff.mp H
    obtain ⟨⟨t690, t691⟩, A90, H⟩ := H
    replace H : (some (t690, t691)) = some (r1, r2) := H
    have A9 := Aside0.mk A90
    clear A90
    simp only [Option.some.injEq, Prod.mk.injEq] at H
    obtain ⟨rfl, rfl⟩ := H
    go_enter Try.func138, Try.ntmps138
    go_wp2_with (first | ((with_reducible refine gate_callee (f := 137) rfl ?_); refine goesL_ (some 9) rfl rfl Try.func137 (by kernel_rfl) rfl #[.string a0] rfl (by (try simp only [List.map_toArray, List.map_cons, List.map_nil]); first | done | rfl | (simp only [List.length_drop, List.length_take]; rfl)) ?_; (with_reducible refine (impl_isName.calls a0 true _ A4.out).mono ?_); rintro e w' ⟨rfl, ⟨nd, rfl⟩⟩; refine ⟨_, rfl, ?_⟩) | (go_at_call 137; (with_reducible refine (impl_isName.calls a1 true _ A6.out).mono ?_); rintro e w' ⟨rfl, ⟨nd, rfl⟩⟩) | ((with_reducible refine gate_dst (N := 24) rfl ?_); (try (refine gate_guard (by rfl) ?_; dsimp only)); refine Kd.R_lit Kd.string _ 9 ?hg (N := 24) ?hd (xs := ([a0, a1, a2] : List ByteArray)) (inner := [.string a0, .string a1, .string a2]) (ok := fun _ => True) (okp := fun _ => True) ?hr ?hp (fun _ hk => hk) trivial (Below.refl _ _) (Nat.le_refl _) (by simp) ?_; (case hd => rfl); (case hg => rfl); (case hr => first | (go_simp; done) | (go_simp; rfl)); (case hp => exact (Reps.one (show Kd.M Kd.string _ _ _ a0 [.string a0] from rfl) (Reps.one (show Kd.M Kd.string _ _ _ a1 [.string a1] from rfl) (Reps.one (show Kd.M Kd.string _ _ _ a2 [.string a2] from rfl) (Reps.none _ _))))); intro v688 w10 ho11 hb hg_ hnew_; clear hg_ hnew_; (first | rw [← Ny687.out] at ho11 | (simp only [Int.reduceToNat] at ho11; rw [← Ny687.out] at ho11)); have n0_ := Aside0.mk (Kd.R_lower ho11 (below_size (by repeat (first | (with_reducible first | exact HB.out | apply below_alloc | apply pw_below_drewN | apply below_drew1) | exact HB.out)))); have n1_ := Aside0.mk (below_step (by repeat (first | (with_reducible first | exact HB.out | apply below_alloc | apply pw_below_drewN | apply below_drew1) | exact HB.out)) hb); clear HB; have HO689 := n0_; have HB := n1_; clear n0_ n1_; clear hb ho11; obtain ⟨Ao12, co12, eo12⟩ := Kd.R_slice HO689.out; subst eo12) | ((with_reducible refine gate_callee (f := 44) rfl ?_); refine goesL_ (some 25) rfl rfl Try.func44 (by kernel_rfl) rfl #[.int .u8 98, .slice Ao12 y687.length co12] rfl (by (try simp only [List.map_toArray, List.map_cons, List.map_nil]); first | done | rfl | (simp only [List.length_drop, List.length_take]; rfl)) ?_; (with_reducible refine (impl_ListDigest.calls k 98 _ _ y687 t690 t691 _ ?side1 ?side2 A9.out).mono ?_); (case side1 => repeat (first | exact (Kd.R_reads' HO689.out).2.2 | (with_reducible refine Kd.C_alloc ?_ _) | (with_reducible refine Kd.C_drewN ?_ _) | (with_reducible refine Kd.C_drew ?_))); (case side2 => exact (Kd.R_reads' HO689.out).2.1); rintro e w13 ⟨rfl, hb⟩; refine ⟨_, rfl, ?_⟩; have n0_ := Aside0.mk (Kd.R_below (by (with_reducible repeat (first | apply Kd.R_alloc | apply Kd.R_drewN | apply Kd.R_drew)); exact HO689.out) hb); have n1_ := Aside0.mk (below_step (by repeat (first | (with_reducible first | exact HB.out | apply below_alloc | apply pw_below_drewN | apply below_drew1) | exact HB.out)) hb); clear HO689; clear HB; have HO689 := n0_; have HB := n1_; clear n0_ n1_; (try clear hb); (try clear hb2); (try clear hk); (try clear hi)))
    go_ret2
    exact ⟨by first | rfl | (simp [errW_none, errW_some] <;> rfl) | (simp [*, errW_none, errW_some] <;> rfl), by repeat (first | (with_reducible first | exact HB.out | apply below_alloc | apply pw_below_drewN | apply below_drew1) | exact HB.out)⟩
  ·replace c7 := Bool.eq_false_iff.mpr c7
   subst c7
   have H1 : (some ((⟨#[]⟩ : ByteArray), false)) = some (r1, r2) := by rw [if_neg (show ¬ (false = true) by decide)] at H; exact H
   clear H
   have H := H1
   clear H1
   simp only [Option.some.injEq, Prod.mk.injEq] at H
   obtain ⟨rfl, rfl⟩ := H
   go_enter Try.func138, Try.ntmps138
   go_wp2_with (first | ((with_reducible refine gate_callee (f := 137) rfl ?_); refine goesL_ (some 9) rfl rfl Try.func137 (by kernel_rfl) rfl #[.string a0] rfl (by (try simp only [List.map_toArray, List.map_cons, List.map_nil]); first | done | rfl | (simp only [List.length_drop, List.length_take]; rfl)) ?_; (with_reducible refine (impl_isName.calls a0 true _ A4.out).mono ?_); rintro e w' ⟨rfl, ⟨nd, rfl⟩⟩; refine ⟨_, rfl, ?_⟩) | (go_at_call 137; (with_reducible refine (impl_isName.calls a1 false _ A6.out).mono ?_); rintro e w' ⟨rfl, ⟨nd, rfl⟩⟩))
   go_ret2
   exact ⟨by first | rfl | (simp [errW_none, errW_some] <;> rfl) | (simp [*, errW_none, errW_some] <;> rfl), by repeat (first | (with_reducible first | exact HB.out | apply below_alloc | apply pw_below_drewN | apply below_drew1) | exact HB.out)⟩
 ·replace c5 := Bool.eq_false_iff.mpr c5
  subst c5
  have H1 : (some ((⟨#[]⟩ : ByteArray), false)) = some (r1, r2) := by rw [if_neg (show ¬ (false = true) by decide)] at H; exact H
  clear H
  have H := H1
  clear H1
  simp only [Option.some.injEq, Prod.mk.injEq] at H
  obtain ⟨rfl, rfl⟩ := H
  go_enter Try.func138, Try.ntmps138
  go_wp2_with (first | ((with_reducible refine gate_callee (f := 137) rfl ?_); refine goesL_ (some 9) rfl rfl Try.func137 (by kernel_rfl) rfl #[.string a0] rfl (by (try simp only [List.map_toArray, List.map_cons, List.map_nil]); first | done | rfl | (simp only [List.length_drop, List.length_take]; rfl)) ?_; (with_reducible refine (impl_isName.calls a0 false _ A4.out).mono ?_); rintro e w' ⟨rfl, ⟨nd, rfl⟩⟩; refine ⟨_, rfl, ?_⟩))
  go_ret2
  exact ⟨by first | rfl | (simp [errW_none, errW_some] <;> rfl) | (simp [*, errW_none, errW_some] <;> rfl), by repeat (first | (with_reducible first | exact HB.out | apply below_alloc | apply pw_below_drewN | apply below_drew1) | exact HB.out)⟩
def impl_isSlot.f (k : Nat) (a0_0 : ByteArray) (a0_1 : ByteArray) (a0_2 : ByteArray) (a0_3 : ByteArray) (a0_4 : Bool) : Option (Bool) := if a0_4 = true then ((impl_isName.f a0_0).bind fun t693 => (if t693 = true then ((impl_isDigest.f a0_2).bind fun t694 => (if t694 = true then (if a0_1.toList = ([] : List UInt8) then (some (a0_3.toList == ([] : List UInt8))) else (some false)) else (some false))) else (some false))) else ((impl_CommitOf.f k a0_0 a0_1 a0_3).bind fun bt695 => (if bt695.2 = true then (some (bt695.1.toList == a0_2.toList)) else (some false)))
set_option maxHeartbeats 8000000 in
set_option maxRecDepth 100000 in
theorem impl_isSlot.calls (k : Nat) (a0_0 : ByteArray) (a0_1 : ByteArray) (a0_2 : ByteArray) (a0_3 : ByteArray) (a0_4 : Bool) (r : Bool) (w : World) (h : impl_isSlot.f k a0_0 a0_1 a0_2 a0_3 a0_4 = some r) :
  Calls Try.prog 98 #[.agg #[.string a0_0, .string a0_1, .string a0_2, .string a0_3, .bool a0_4]] w fun e w' => e = .returned (.bool r) ∧ Below w.heap.size w w' := by
 have hu67 := Try.underlying67
 have HB := Aside0.mk (Below.refl w.heap.size w)
 have H : (if a0_4 = true then ((impl_isName.f a0_0).bind fun t693 => (if t693 = true then ((impl_isDigest.f a0_2).bind fun t694 => (if t694 = true then (if a0_1.toList = ([] : List UInt8) then (some (a0_3.toList == ([] : List UInt8))) else (some false)) else (some false))) else (some false))) else ((impl_CommitOf.f k a0_0 a0_1 a0_3).bind fun bt695 => (if bt695.2 = true then (some (bt695.1.toList == a0_2.toList)) else (some false)))) = some r := h
 clear h
 by_cases c2 : a0_4 = true
 ·subst c2
  have H1 : ((impl_isName.f a0_0).bind fun t693 => (if t693 = true then ((impl_isDigest.f a0_2).bind fun t694 => (if t694 = true then (if a0_1.toList = ([] : List UInt8) then (some (a0_3.toList == ([] : List UInt8))) else (some false)) else (some false))) else (some false))) = some r := by rw [if_pos rfl] at H; exact H
  clear H
  have H := H1
  clear H1
  replace H := Option.bind_eq_some_iff.mp H
  obtain ⟨t693, A30, H⟩ := H
  replace H : (if t693 = true then ((impl_isDigest.f a0_2).bind fun t694 => (if t694 = true then (if a0_1.toList = ([] : List UInt8) then (some (a0_3.toList == ([] : List UInt8))) else (some false)) else (some false))) else (some false)) = some r := H
  have A3 := Aside0.mk A30
  clear A30
  by_cases c4 : t693 = true
  ·subst c4
   have H1 : ((impl_isDigest.f a0_2).bind fun t694 => (if t694 = true then (if a0_1.toList = ([] : List UInt8) then (some (a0_3.toList == ([] : List UInt8))) else (some false)) else (some false))) = some r := by rw [if_pos rfl] at H; exact H
   clear H
   have H := H1
   clear H1
   replace H := Option.bind_eq_some_iff.mp H
   obtain ⟨t694, A50, H⟩ := H
   replace H : (if t694 = true then (if a0_1.toList = ([] : List UInt8) then (some (a0_3.toList == ([] : List UInt8))) else (some false)) else (some false)) = some r := H
   have A5 := Aside0.mk A50
   clear A50
   by_cases c6 : t694 = true
   ·subst c6
    have H1 : (if a0_1.toList = ([] : List UInt8) then (some (a0_3.toList == ([] : List UInt8))) else (some false)) = some r := by rw [if_pos rfl] at H; exact H
    clear H
    have H := H1
    clear H1
    by_cases c7 : a0_1.toList = ([] : List UInt8)
    ·rw [if_pos c7] at H
     have c7b0 : (a0_1.toList == ([] : List UInt8)) = true := beq_iff_eq.mpr c7
     have c7b1 : (a0_1.toList != ([] : List UInt8)) = false := bne_eq_false_iff_eq.mpr c7
     clear c7
     obtain rfl := Option.some.inj H
     go_enter Try.func98, Try.ntmps98
     go_wp2_with (first | ((with_reducible refine gate_dst (N := 1) rfl ?_); refine box_event ?hg (N := 1) ?hd (cs := #[.string a0_0, .string a0_1, .string a0_2, .string a0_3, .bool true]) (t := 67) ?hr ?_; (case hd => rfl); (case hg => rfl); (case hr => first | (go_simp; done) | (go_simp; rfl)); intro gb692 hg w8 hbox hb; have n0_ := Aside0.mk (below_step (by repeat (first | (with_reducible first | exact HB.out | apply below_alloc | apply pw_below_drewN | apply below_drew1) | exact HB.out)) hb); have n1_ := Aside0.mk (hbox); have n2_ := Aside0.mk ((by rw [hg]; exact (below_size (by repeat (first | (with_reducible first | exact HB.out | apply below_alloc | apply pw_below_drewN | apply below_drew1) | exact HB.out))) : w.heap.size ≤ gb692)); have n3_ := Aside0.mk ((by rw [hg]; exact (below_size (by repeat (first | (with_reducible first | exact HB.out | apply below_alloc | apply pw_below_drewN | apply below_drew1) | exact HB.out))) : w.heap.size ≤ gb692)); clear HB; have HB := n0_; have BK692 := n1_; have GW692 := n2_; have GE692 := n3_; clear n0_ n1_ n2_ n3_; clear hb hbox hg; have hcz9_0 : w8.cell? ⟨gb692, 0, none⟩ = some (.string a0_0) := (blk_cell BK692.out 0).trans rfl; have hcz9_1 : w8.cell? ⟨gb692, 1, none⟩ = some (.string a0_1) := (blk_cell BK692.out 1).trans rfl; have hcz9_2 : w8.cell? ⟨gb692, 2, none⟩ = some (.string a0_2) := (blk_cell BK692.out 2).trans rfl; have hcz9_3 : w8.cell? ⟨gb692, 3, none⟩ = some (.string a0_3) := (blk_cell BK692.out 3).trans rfl; have hcz9_4 : w8.cell? ⟨gb692, 4, none⟩ = some (.bool true) := (blk_cell BK692.out 4).trans rfl; have hfz9_0 := blk_frozen BK692.out 0; have hfz9_1 := blk_frozen BK692.out 1; have hfz9_2 := blk_frozen BK692.out 2; have hfz9_3 := blk_frozen BK692.out 3; have hfz9_4 := blk_frozen BK692.out 4) | ((with_reducible refine gate_callee (f := 137) rfl ?_); refine goesL_ (some 9) rfl rfl Try.func137 (by kernel_rfl) rfl #[.string a0_0] rfl (by (try simp only [List.map_toArray, List.map_cons, List.map_nil]); first | done | rfl | (simp only [List.length_drop, List.length_take]; rfl)) ?_; (with_reducible refine (impl_isName.calls a0_0 true _ A3.out).mono ?_); rintro e w' ⟨rfl, ⟨nd, rfl⟩⟩; refine ⟨_, rfl, ?_⟩) | (go_at_call 82; (with_reducible refine (impl_isDigest.calls a0_2 true _ A5.out).mono ?_); rintro e w' ⟨rfl, ⟨nd, rfl⟩⟩))
     go_ret
     exact ⟨by first | rfl | (simp [errW_none, errW_some] <;> rfl) | (simp [*, errW_none, errW_some] <;> rfl), by repeat (first | (with_reducible first | exact HB.out | apply below_alloc | apply pw_below_drewN | apply below_drew1 | refine below_set ?_ GE692.out) | exact HB.out)⟩
    ·rw [if_neg c7] at H
     have c7b0 : (a0_1.toList == ([] : List UInt8)) = false := beq_eq_false_iff_ne.mpr c7
     have c7b1 : (a0_1.toList != ([] : List UInt8)) = true := bne_iff_ne.mpr c7
     obtain rfl := Option.some.inj H
     go_enter Try.func98, Try.ntmps98
     go_wp2_with (first | ((with_reducible refine gate_dst (N := 1) rfl ?_); refine box_event ?hg (N := 1) ?hd (cs := #[.string a0_0, .string a0_1, .string a0_2, .string a0_3, .bool true]) (t := 67) ?hr ?_; (case hd => rfl); (case hg => rfl); (case hr => first | (go_simp; done) | (go_simp; rfl)); intro gb692 hg w10 hbox hb; have n0_ := Aside0.mk (below_step (by repeat (first | (with_reducible first | exact HB.out | apply below_alloc | apply pw_below_drewN | apply below_drew1) | exact HB.out)) hb); have n1_ := Aside0.mk (hbox); have n2_ := Aside0.mk ((by rw [hg]; exact (below_size (by repeat (first | (with_reducible first | exact HB.out | apply below_alloc | apply pw_below_drewN | apply below_drew1) | exact HB.out))) : w.heap.size ≤ gb692)); have n3_ := Aside0.mk ((by rw [hg]; exact (below_size (by repeat (first | (with_reducible first | exact HB.out | apply below_alloc | apply pw_below_drewN | apply below_drew1) | exact HB.out))) : w.heap.size ≤ gb692)); clear HB; have HB := n0_; have BK692 := n1_; have GW692 := n2_; have GE692 := n3_; clear n0_ n1_ n2_ n3_; clear hb hbox hg; have hcz11_0 : w10.cell? ⟨gb692, 0, none⟩ = some (.string a0_0) := (blk_cell BK692.out 0).trans rfl; have hcz11_1 : w10.cell? ⟨gb692, 1, none⟩ = some (.string a0_1) := (blk_cell BK692.out 1).trans rfl; have hcz11_2 : w10.cell? ⟨gb692, 2, none⟩ = some (.string a0_2) := (blk_cell BK692.out 2).trans rfl; have hcz11_3 : w10.cell? ⟨gb692, 3, none⟩ = some (.string a0_3) := (blk_cell BK692.out 3).trans rfl; have hcz11_4 : w10.cell? ⟨gb692, 4, none⟩ = some (.bool true) := (blk_cell BK692.out 4).trans rfl; have hfz11_0 := blk_frozen BK692.out 0; have hfz11_1 := blk_frozen BK692.out 1; have hfz11_2 := blk_frozen BK692.out 2; have hfz11_3 := blk_frozen BK692.out 3; have hfz11_4 := blk_frozen BK692.out 4) | ((with_reducible refine gate_callee (f := 137) rfl ?_); refine goesL_ (some 9) rfl rfl Try.func137 (by kernel_rfl) rfl #[.string a0_0] rfl (by (try simp only [List.map_toArray, List.map_cons, List.map_nil]); first | done | rfl | (simp only [List.length_drop, List.length_take]; rfl)) ?_; (with_reducible refine (impl_isName.calls a0_0 true _ A3.out).mono ?_); rintro e w' ⟨rfl, ⟨nd, rfl⟩⟩; refine ⟨_, rfl, ?_⟩) | (go_at_call 82; (with_reducible refine (impl_isDigest.calls a0_2 true _ A5.out).mono ?_); rintro e w' ⟨rfl, ⟨nd, rfl⟩⟩))
     go_ret
     exact ⟨by first | rfl | (simp [errW_none, errW_some] <;> rfl) | (simp [*, errW_none, errW_some] <;> rfl), by repeat (first | (with_reducible first | exact HB.out | apply below_alloc | apply pw_below_drewN | apply below_drew1 | refine below_set ?_ GE692.out) | exact HB.out)⟩
   ·replace c6 := Bool.eq_false_iff.mpr c6
    subst c6
    have H1 : (some false) = some r := by rw [if_neg (show ¬ (false = true) by decide)] at H; exact H
    clear H
    have H := H1
    clear H1
    obtain rfl := Option.some.inj H
    go_enter Try.func98, Try.ntmps98
    go_wp2_with (first | ((with_reducible refine gate_dst (N := 1) rfl ?_); refine box_event ?hg (N := 1) ?hd (cs := #[.string a0_0, .string a0_1, .string a0_2, .string a0_3, .bool true]) (t := 67) ?hr ?_; (case hd => rfl); (case hg => rfl); (case hr => first | (go_simp; done) | (go_simp; rfl)); intro gb692 hg w12 hbox hb; have n0_ := Aside0.mk (below_step (by repeat (first | (with_reducible first | exact HB.out | apply below_alloc | apply pw_below_drewN | apply below_drew1) | exact HB.out)) hb); have n1_ := Aside0.mk (hbox); have n2_ := Aside0.mk ((by rw [hg]; exact (below_size (by repeat (first | (with_reducible first | exact HB.out | apply below_alloc | apply pw_below_drewN | apply below_drew1) | exact HB.out))) : w.heap.size ≤ gb692)); have n3_ := Aside0.mk ((by rw [hg]; exact (below_size (by repeat (first | (with_reducible first | exact HB.out | apply below_alloc | apply pw_below_drewN | apply below_drew1) | exact HB.out))) : w.heap.size ≤ gb692)); clear HB; have HB := n0_; have BK692 := n1_; have GW692 := n2_; have GE692 := n3_; clear n0_ n1_ n2_ n3_; clear hb hbox hg; have hcz13_0 : w12.cell? ⟨gb692, 0, none⟩ = some (.string a0_0) := (blk_cell BK692.out 0).trans rfl; have hcz13_1 : w12.cell? ⟨gb692, 1, none⟩ = some (.string a0_1) := (blk_cell BK692.out 1).trans rfl; have hcz13_2 : w12.cell? ⟨gb692, 2, none⟩ = some (.string a0_2) := (blk_cell BK692.out 2).trans rfl; have hcz13_3 : w12.cell? ⟨gb692, 3, none⟩ = some (.string a0_3) := (blk_cell BK692.out 3).trans rfl; have hcz13_4 : w12.cell? ⟨gb692, 4, none⟩ = some (.bool true) := (blk_cell BK692.out 4).trans rfl; have hfz13_0 := blk_frozen BK692.out 0; have hfz13_1 := blk_frozen BK692.out 1; have hfz13_2 := blk_frozen BK692.out 2; have hfz13_3 := blk_frozen BK692.out 3; have hfz13_4 := blk_frozen BK692.out 4) | ((with_reducible refine gate_callee (f := 137) rfl ?_); refine goesL_ (some 9) rfl rfl Try.func137 (by kernel_rfl) rfl #[.string a0_0] rfl (by (try simp only [List.map_toArray, List.map_cons, List.map_nil]); first | done | rfl | (simp only [List.length_drop, List.length_take]; rfl)) ?_; (with_reducible refine (impl_isName.calls a0_0 true _ A3.out).mono ?_); rintro e w' ⟨rfl, ⟨nd, rfl⟩⟩; refine ⟨_, rfl, ?_⟩) | (go_at_call 82; (with_reducible refine (impl_isDigest.calls a0_2 false _ A5.out).mono ?_); rintro e w' ⟨rfl, ⟨nd, rfl⟩⟩))
    go_ret
    exact ⟨by first | rfl | (simp [errW_none, errW_some] <;> rfl) | (simp [*, errW_none, errW_some] <;> rfl), by repeat (first | (with_reducible first | exact HB.out | apply below_alloc | apply pw_below_drewN | apply below_drew1 | refine below_set ?_ GE692.out) | exact HB.out)⟩
  ·replace c4 := Bool.eq_false_iff.mpr c4
   subst c4
   have H1 : (some false) = some r := by rw [if_neg (show ¬ (false = true) by decide)] at H; exact H
   clear H
   have H := H1
   clear H1
   obtain rfl := Option.some.inj H
   go_enter Try.func98, Try.ntmps98
   go_wp2_with (first | ((with_reducible refine gate_dst (N := 1) rfl ?_); refine box_event ?hg (N := 1) ?hd (cs := #[.string a0_0, .string a0_1, .string a0_2, .string a0_3, .bool true]) (t := 67) ?hr ?_; (case hd => rfl); (case hg => rfl); (case hr => first | (go_simp; done) | (go_simp; rfl)); intro gb692 hg w14 hbox hb; have n0_ := Aside0.mk (below_step (by repeat (first | (with_reducible first | exact HB.out | apply below_alloc | apply pw_below_drewN | apply below_drew1) | exact HB.out)) hb); have n1_ := Aside0.mk (hbox); have n2_ := Aside0.mk ((by rw [hg]; exact (below_size (by repeat (first | (with_reducible first | exact HB.out | apply below_alloc | apply pw_below_drewN | apply below_drew1) | exact HB.out))) : w.heap.size ≤ gb692)); have n3_ := Aside0.mk ((by rw [hg]; exact (below_size (by repeat (first | (with_reducible first | exact HB.out | apply below_alloc | apply pw_below_drewN | apply below_drew1) | exact HB.out))) : w.heap.size ≤ gb692)); clear HB; have HB := n0_; have BK692 := n1_; have GW692 := n2_; have GE692 := n3_; clear n0_ n1_ n2_ n3_; clear hb hbox hg; have hcz15_0 : w14.cell? ⟨gb692, 0, none⟩ = some (.string a0_0) := (blk_cell BK692.out 0).trans rfl; have hcz15_1 : w14.cell? ⟨gb692, 1, none⟩ = some (.string a0_1) := (blk_cell BK692.out 1).trans rfl; have hcz15_2 : w14.cell? ⟨gb692, 2, none⟩ = some (.string a0_2) := (blk_cell BK692.out 2).trans rfl; have hcz15_3 : w14.cell? ⟨gb692, 3, none⟩ = some (.string a0_3) := (blk_cell BK692.out 3).trans rfl; have hcz15_4 : w14.cell? ⟨gb692, 4, none⟩ = some (.bool true) := (blk_cell BK692.out 4).trans rfl; have hfz15_0 := blk_frozen BK692.out 0; have hfz15_1 := blk_frozen BK692.out 1; have hfz15_2 := blk_frozen BK692.out 2; have hfz15_3 := blk_frozen BK692.out 3; have hfz15_4 := blk_frozen BK692.out 4) | ((with_reducible refine gate_callee (f := 137) rfl ?_); refine goesL_ (some 9) rfl rfl Try.func137 (by kernel_rfl) rfl #[.string a0_0] rfl (by (try simp only [List.map_toArray, List.map_cons, List.map_nil]); first | done | rfl | (simp only [List.length_drop, List.length_take]; rfl)) ?_; (with_reducible refine (impl_isName.calls a0_0 false _ A3.out).mono ?_); rintro e w' ⟨rfl, ⟨nd, rfl⟩⟩; refine ⟨_, rfl, ?_⟩))
   go_ret
   exact ⟨by first | rfl | (simp [errW_none, errW_some] <;> rfl) | (simp [*, errW_none, errW_some] <;> rfl), by repeat (first | (with_reducible first | exact HB.out | apply below_alloc | apply pw_below_drewN | apply below_drew1 | refine below_set ?_ GE692.out) | exact HB.out)⟩
 ·replace c2 := Bool.eq_false_iff.mpr c2
  subst c2
  have H1 : ((impl_CommitOf.f k a0_0 a0_1 a0_3).bind fun bt695 => (if bt695.2 = true then (some (bt695.1.toList == a0_2.toList)) else (some false))) = some r := by rw [if_neg (show ¬ (false = true) by decide)] at H; exact H
  clear H
  have H := H1
  clear H1
  replace H := Option.bind_eq_some_iff.mp H
  obtain ⟨⟨t695, t696⟩, A160, H⟩ := H
  replace H : (if t696 = true then (some (t695.toList == a0_2.toList)) else (some false)) = some r := H
  have A16 := Aside0.mk A160
  clear A160
  by_cases c17 : t696 = true
  ·subst c17
   have H1 : (some (t695.toList == a0_2.toList)) = some r := by rw [if_pos rfl] at H; exact H
   clear H
   have H := H1
   clear H1
   obtain rfl := Option.some.inj H
   go_enter Try.func98, Try.ntmps98
   go_wp2_with (first | ((with_reducible refine gate_dst (N := 1) rfl ?_); refine box_event ?hg (N := 1) ?hd (cs := #[.string a0_0, .string a0_1, .string a0_2, .string a0_3, .bool false]) (t := 67) ?hr ?_; (case hd => rfl); (case hg => rfl); (case hr => first | (go_simp; done) | (go_simp; rfl)); intro gb692 hg w18 hbox hb; have n0_ := Aside0.mk (below_step (by repeat (first | (with_reducible first | exact HB.out | apply below_alloc | apply pw_below_drewN | apply below_drew1) | exact HB.out)) hb); have n1_ := Aside0.mk (hbox); have n2_ := Aside0.mk ((by rw [hg]; exact (below_size (by repeat (first | (with_reducible first | exact HB.out | apply below_alloc | apply pw_below_drewN | apply below_drew1) | exact HB.out))) : w.heap.size ≤ gb692)); have n3_ := Aside0.mk ((by rw [hg]; exact (below_size (by repeat (first | (with_reducible first | exact HB.out | apply below_alloc | apply pw_below_drewN | apply below_drew1) | exact HB.out))) : w.heap.size ≤ gb692)); clear HB; have HB := n0_; have BK692 := n1_; have GW692 := n2_; have GE692 := n3_; clear n0_ n1_ n2_ n3_; clear hb hbox hg; have hcz19_0 : w18.cell? ⟨gb692, 0, none⟩ = some (.string a0_0) := (blk_cell BK692.out 0).trans rfl; have hcz19_1 : w18.cell? ⟨gb692, 1, none⟩ = some (.string a0_1) := (blk_cell BK692.out 1).trans rfl; have hcz19_2 : w18.cell? ⟨gb692, 2, none⟩ = some (.string a0_2) := (blk_cell BK692.out 2).trans rfl; have hcz19_3 : w18.cell? ⟨gb692, 3, none⟩ = some (.string a0_3) := (blk_cell BK692.out 3).trans rfl; have hcz19_4 : w18.cell? ⟨gb692, 4, none⟩ = some (.bool false) := (blk_cell BK692.out 4).trans rfl; have hfz19_0 := blk_frozen BK692.out 0; have hfz19_1 := blk_frozen BK692.out 1; have hfz19_2 := blk_frozen BK692.out 2; have hfz19_3 := blk_frozen BK692.out 3; have hfz19_4 := blk_frozen BK692.out 4) | ((with_reducible refine gate_callee (f := 138) rfl ?_); refine goesL_ (some 32) rfl rfl Try.func138 (by kernel_rfl) rfl #[.string a0_0, .string a0_1, .string a0_3] rfl (by (try simp only [List.map_toArray, List.map_cons, List.map_nil]); first | done | rfl | (simp only [List.length_drop, List.length_take]; rfl)) ?_; (with_reducible refine (impl_CommitOf.calls k a0_0 a0_1 a0_3 t695 true _ A16.out).mono ?_); rintro e w20 ⟨rfl, hb⟩; refine ⟨_, rfl, ?_⟩; have n0_ := Aside0.mk (blk_below (g := gb692) (o := .cells #[.string a0_0, .string a0_1, .string a0_2, .string a0_3, .bool false] 67 (0, 0)) (by (with_reducible repeat (first | refine blk_drewN ?_ _ | refine blk_drew ?_ | refine blk_alloc ?_ _)); exact BK692.out) hb); have n1_ := Aside0.mk (below_step (by repeat (first | (with_reducible first | exact HB.out | apply below_alloc | apply pw_below_drewN | apply below_drew1 | refine below_set ?_ GE692.out) | exact HB.out)) hb); clear BK692; clear HB; have BK692 := n0_; have HB := n1_; clear n0_ n1_; (try clear hb); (try clear hb2); (try clear hk); (try clear hi); have hcz21_0 : w20.cell? ⟨gb692, 0, none⟩ = some (.string a0_0) := (blk_cell BK692.out 0).trans rfl; have hcz21_1 : w20.cell? ⟨gb692, 1, none⟩ = some (.string a0_1) := (blk_cell BK692.out 1).trans rfl; have hcz21_2 : w20.cell? ⟨gb692, 2, none⟩ = some (.string a0_2) := (blk_cell BK692.out 2).trans rfl; have hcz21_3 : w20.cell? ⟨gb692, 3, none⟩ = some (.string a0_3) := (blk_cell BK692.out 3).trans rfl; have hcz21_4 : w20.cell? ⟨gb692, 4, none⟩ = some (.bool false) := (blk_cell BK692.out 4).trans rfl; have hfz21_0 := blk_frozen BK692.out 0; have hfz21_1 := blk_frozen BK692.out 1; have hfz21_2 := blk_frozen BK692.out 2; have hfz21_3 := blk_frozen BK692.out 3; have hfz21_4 := blk_frozen BK692.out 4))
   go_ret
   exact ⟨by first | rfl | (simp [errW_none, errW_some] <;> rfl) | (simp [*, errW_none, errW_some] <;> rfl), by repeat (first | (with_reducible first | exact HB.out | apply below_alloc | apply pw_below_drewN | apply below_drew1 | refine below_set ?_ GE692.out) | exact HB.out)⟩
  ·replace c17 := Bool.eq_false_iff.mpr c17
   subst c17
   have H1 : (some false) = some r := by rw [if_neg (show ¬ (false = true) by decide)] at H; exact H
   clear H
   have H := H1
   clear H1
   obtain rfl := Option.some.inj H
   go_enter Try.func98, Try.ntmps98
   go_wp2_with (first | ((with_reducible refine gate_dst (N := 1) rfl ?_); refine box_event ?hg (N := 1) ?hd (cs := #[.string a0_0, .string a0_1, .string a0_2, .string a0_3, .bool false]) (t := 67) ?hr ?_; (case hd => rfl); (case hg => rfl); (case hr => first | (go_simp; done) | (go_simp; rfl)); intro gb692 hg w22 hbox hb; have n0_ := Aside0.mk (below_step (by repeat (first | (with_reducible first | exact HB.out | apply below_alloc | apply pw_below_drewN | apply below_drew1) | exact HB.out)) hb); have n1_ := Aside0.mk (hbox); have n2_ := Aside0.mk ((by rw [hg]; exact (below_size (by repeat (first | (with_reducible first | exact HB.out | apply below_alloc | apply pw_below_drewN | apply below_drew1) | exact HB.out))) : w.heap.size ≤ gb692)); have n3_ := Aside0.mk ((by rw [hg]; exact (below_size (by repeat (first | (with_reducible first | exact HB.out | apply below_alloc | apply pw_below_drewN | apply below_drew1) | exact HB.out))) : w.heap.size ≤ gb692)); clear HB; have HB := n0_; have BK692 := n1_; have GW692 := n2_; have GE692 := n3_; clear n0_ n1_ n2_ n3_; clear hb hbox hg; have hcz23_0 : w22.cell? ⟨gb692, 0, none⟩ = some (.string a0_0) := (blk_cell BK692.out 0).trans rfl; have hcz23_1 : w22.cell? ⟨gb692, 1, none⟩ = some (.string a0_1) := (blk_cell BK692.out 1).trans rfl; have hcz23_2 : w22.cell? ⟨gb692, 2, none⟩ = some (.string a0_2) := (blk_cell BK692.out 2).trans rfl; have hcz23_3 : w22.cell? ⟨gb692, 3, none⟩ = some (.string a0_3) := (blk_cell BK692.out 3).trans rfl; have hcz23_4 : w22.cell? ⟨gb692, 4, none⟩ = some (.bool false) := (blk_cell BK692.out 4).trans rfl; have hfz23_0 := blk_frozen BK692.out 0; have hfz23_1 := blk_frozen BK692.out 1; have hfz23_2 := blk_frozen BK692.out 2; have hfz23_3 := blk_frozen BK692.out 3; have hfz23_4 := blk_frozen BK692.out 4) | ((with_reducible refine gate_callee (f := 138) rfl ?_); refine goesL_ (some 32) rfl rfl Try.func138 (by kernel_rfl) rfl #[.string a0_0, .string a0_1, .string a0_3] rfl (by (try simp only [List.map_toArray, List.map_cons, List.map_nil]); first | done | rfl | (simp only [List.length_drop, List.length_take]; rfl)) ?_; (with_reducible refine (impl_CommitOf.calls k a0_0 a0_1 a0_3 t695 false _ A16.out).mono ?_); rintro e w24 ⟨rfl, hb⟩; refine ⟨_, rfl, ?_⟩; have n0_ := Aside0.mk (blk_below (g := gb692) (o := .cells #[.string a0_0, .string a0_1, .string a0_2, .string a0_3, .bool false] 67 (0, 0)) (by (with_reducible repeat (first | refine blk_drewN ?_ _ | refine blk_drew ?_ | refine blk_alloc ?_ _)); exact BK692.out) hb); have n1_ := Aside0.mk (below_step (by repeat (first | (with_reducible first | exact HB.out | apply below_alloc | apply pw_below_drewN | apply below_drew1 | refine below_set ?_ GE692.out) | exact HB.out)) hb); clear BK692; clear HB; have BK692 := n0_; have HB := n1_; clear n0_ n1_; (try clear hb); (try clear hb2); (try clear hk); (try clear hi)))
   go_ret
   exact ⟨by first | rfl | (simp [errW_none, errW_some] <;> rfl) | (simp [*, errW_none, errW_some] <;> rfl), by repeat (first | (with_reducible first | exact HB.out | apply below_alloc | apply pw_below_drewN | apply below_drew1 | refine below_set ?_ GE692.out) | exact HB.out)⟩
def impl_CheckSlot_1.f (a0 : ByteArray) : Option (Bool) := (impl_within.f (a0.size : Int) 5 12).bind fun t697 => (some (!t697))
set_option maxHeartbeats 8000000 in
set_option maxRecDepth 100000 in
theorem impl_CheckSlot_1.calls (a0 : ByteArray) (r : Bool) (w : World) (h : impl_CheckSlot_1.f a0 = some r) :
  Calls Try.prog 101 #[.string a0] w fun e w' => e = .returned (.bool r) ∧ Drawn0 w w' := by
 have H : ((impl_within.f (a0.size : Int) 5 12).bind fun t697 => (some (!t697))) = some r := h
 clear h
 replace H := Option.bind_eq_some_iff.mp H
 obtain ⟨t697, A20, H⟩ := H
 replace H : (some (!t697)) = some r := H
 have A2 := Aside0.mk A20
 clear A20
 obtain rfl := Option.some.inj H
 go_enter Try.func101, Try.ntmps101
 go_wp2_with (first | ((with_reducible refine gate_callee (f := 99) rfl ?_); refine goesL_ (some 5) rfl rfl Try.func99 (by kernel_rfl) rfl #[.int .i64 (a0.size : Int), .int .i64 5, .int .i64 12] rfl (by (try simp only [List.map_toArray, List.map_cons, List.map_nil]); first | done | rfl | (simp only [List.length_drop, List.length_take]; rfl)) ?_; (with_reducible refine (impl_within.calls (a0.size : Int) 5 12 t697 _ A2.out).mono ?_); rintro e w' ⟨rfl, ⟨nd, rfl⟩⟩; refine ⟨_, rfl, ?_⟩))
 go_ret
 exact ⟨by first | rfl | (simp; done) | (simp [*]; done) | (simp [bne]; done), by repeat (first | exact Drawn0.refl _ | apply Drawn0.step)⟩
def slices_IndexFunc_impl_CheckSlot_1.l0 : Nat → List ByteArray → Int → Int → Option (Int)
 | 0, _, _, _ => none
 | k + 1, x0, x7, x8 => if x8 < x7 then (if 0 ≤ x8 then (if x8 < (x0.length : Int) then ((impl_CheckSlot_1.f (rdOf ByteArray.empty x0 x8)).bind fun t699 => (if t699 = true then (some x8) else (slices_IndexFunc_impl_CheckSlot_1.l0 k x0 x7 (wrap64 (x8 + 1))))) else (none)) else (none)) else (some (-1))
def slices_IndexFunc_impl_CheckSlot_1.f (k : Nat) (l0 : List ByteArray)  : Option (Int) := slices_IndexFunc_impl_CheckSlot_1.l0 k l0 (l0.length : Int) 0
set_option maxHeartbeats 8000000 in
set_option maxRecDepth 100000 in
theorem slices_IndexFunc_impl_CheckSlot_1.calls (k : Nat) (A0 : Option Addr) (c0 : Nat) (l0 : List ByteArray)  (r : Int) (w : World) (hr0 : Kd.C Kd.string w A0 l0.length l0) (hc0 : l0.length ≤ c0) (h : slices_IndexFunc_impl_CheckSlot_1.f k l0 = some r) :
  Calls Try.prog 139 #[.slice A0 l0.length c0, .func (.func 101) #[] #[]] w fun e w' => e = .returned (.int .i64 r) ∧ Drawn0 w w' := by
 have HR0 := Aside0.mk hr0
 have HC0 := Aside0.mk hc0
 clear hr0 hc0
 have H : (slices_IndexFunc_impl_CheckSlot_1.l0 k l0 (l0.length : Int) 0) = some r := h
 clear h
 have H' := Aside0.mk H
 clear H
 go_enter Try.func139, Try.ntmps139
 go_wp2
 go_loopg [8] k (fun kq v8 w' => ∃ (x8_1 : Int), v8 = .int .i64 x8_1 ∧ Aside0 (slices_IndexFunc_impl_CheckSlot_1.l0 kq l0 (l0.length : Int) x8_1 = some r) ∧ Aside0 (kq ≤ k) ∧ Drawn0 w w')
 case atStart => exact ⟨(0), (by first | rfl | (simp; done) | (simp [*]; done) | (simp [bne]; done)), H', ⟨Nat.le_refl _⟩, by repeat (first | exact Drawn0.refl _ | apply Drawn0.step)⟩
 case round =>
  clear H'
  try clear p2
  obtain ⟨x8_1, rfl, HA, HK1, ⟨m1, rfl⟩⟩ := hrel
  cases gk with
  | zero => exact absurd HA.out (by simp [slices_IndexFunc_impl_CheckSlot_1.l0])
  | succ k1 =>
   have H := HA.out
   clear HA
   simp only [slices_IndexFunc_impl_CheckSlot_1.l0] at H
   by_cases c3 : x8_1 < (l0.length : Int)
   ·rw [if_pos c3] at H
    have c3b0 : decide (x8_1 < (l0.length : Int)) = true := decide_eq_true c3
    clear c3
    by_cases c4 : 0 ≤ x8_1
    ·rw [if_pos c4] at H
     have c4b0 : decide (0 ≤ x8_1) = true := decide_eq_true c4
     clear c4
     by_cases c5 : x8_1 < (l0.length : Int)
     ·rw [if_pos c5] at H
      have c5b0 : decide (x8_1 < (l0.length : Int)) = true := decide_eq_true c5
      clear c5
      replace H := Option.bind_eq_some_iff.mp H
      obtain ⟨t699, A60, H⟩ := H
      replace H : (if t699 = true then (some x8_1) else (slices_IndexFunc_impl_CheckSlot_1.l0 k1 l0 (l0.length : Int) (wrap64 (x8_1 + 1)))) = some r := H
      have A6 := Aside0.mk A60
      clear A60
      by_cases c7 : t699 = true
      ·subst c7
       have H1 : (some x8_1) = some r := by rw [if_pos rfl] at H; exact H
       clear H
       have H := H1
       clear H1
       obtain rfl := Option.some.inj H
       have p698 : 0 ≤ (x8_1 : Int) := of_decide_eq_true (by first | (with_reducible assumption) | assumption)
       have q698 : x8_1 < (l0.length : Int) := of_decide_eq_true (by first | (with_reducible assumption) | assumption)
       obtain ⟨ad698, e698, hx698_0⟩ := Kd.at_string HR0.out x8_1 p698 q698
       cases e698
       replace p698 := eq_true p698
       replace q698 := eq_true q698
       go_wp2_with (first | (go_at_call 101; (with_reducible refine (impl_CheckSlot_1.calls (rdOf ByteArray.empty l0 x8_1) true _ A6.out).mono ?_); rintro e w' ⟨rfl, ⟨nd, rfl⟩⟩))
       go_ret
       exact ⟨by first | rfl | (simp; done) | (simp [*]; done) | (simp [bne]; done), by repeat (first | exact Drawn0.refl _ | apply Drawn0.step)⟩
      ·replace c7 := Bool.eq_false_iff.mpr c7
       subst c7
       have H1 : (slices_IndexFunc_impl_CheckSlot_1.l0 k1 l0 (l0.length : Int) (wrap64 (x8_1 + 1))) = some r := by rw [if_neg (show ¬ (false = true) by decide)] at H; exact H
       clear H
       have H := H1
       clear H1
       have H' := Aside0.mk H
       clear H
       have p698 : 0 ≤ (x8_1 : Int) := of_decide_eq_true (by first | (with_reducible assumption) | assumption)
       have q698 : x8_1 < (l0.length : Int) := of_decide_eq_true (by first | (with_reducible assumption) | assumption)
       obtain ⟨ad698, e698, hx698_0⟩ := Kd.at_string HR0.out x8_1 p698 q698
       cases e698
       replace p698 := eq_true p698
       replace q698 := eq_true q698
       go_wp2_with (first | (go_at_call 101; (with_reducible refine (impl_CheckSlot_1.calls (rdOf ByteArray.empty l0 x8_1) false _ A6.out).mono ?_); rintro e w' ⟨rfl, ⟨nd, rfl⟩⟩))
       go_roundg k1
       case measure => have := HK1.out; omega
       case rel => exact ⟨(wrap64 (x8_1 + 1)), (by first | rfl | (simp; done) | (simp [*]; done) | (simp [bne]; done)), H', ⟨by have := HK1.out; omega⟩, by repeat (first | exact Drawn0.refl _ | apply Drawn0.step)⟩
     ·rw [if_neg c5] at H
      exact absurd H (by simp)
    ·rw [if_neg c4] at H
     exact absurd H (by simp)
   ·rw [if_neg c3] at H
    have c3b0 : decide (x8_1 < (l0.length : Int)) = false := decide_eq_false c3
    clear c3
    obtain rfl := Option.some.inj H
    go_wp2
    go_ret
    exact ⟨by first | rfl | (simp; done) | (simp [*]; done) | (simp [bne]; done), by repeat (first | exact Drawn0.refl _ | apply Drawn0.step)⟩
def slices_ContainsFunc_impl_CheckSlot_1.f (k : Nat) (l0 : List ByteArray)  : Option (Bool) := (slices_IndexFunc_impl_CheckSlot_1.f k l0).bind fun t700 => (some (decide (t700 ≥ 0)))
set_option maxHeartbeats 8000000 in
set_option maxRecDepth 100000 in
theorem slices_ContainsFunc_impl_CheckSlot_1.calls (k : Nat) (A0 : Option Addr) (c0 : Nat) (l0 : List ByteArray)  (r : Bool) (w : World) (hr0 : Kd.C Kd.string w A0 l0.length l0) (hc0 : l0.length ≤ c0) (h : slices_ContainsFunc_impl_CheckSlot_1.f k l0 = some r) :
  Calls Try.prog 100 #[.slice A0 l0.length c0, .func (.func 101) #[] #[]] w fun e w' => e = .returned (.bool r) ∧ Drawn0 w w' := by
 have HR0 := Aside0.mk hr0
 have HC0 := Aside0.mk hc0
 clear hr0 hc0
 have H : ((slices_IndexFunc_impl_CheckSlot_1.f k l0).bind fun t700 => (some (decide (t700 ≥ 0)))) = some r := h
 clear h
 replace H := Option.bind_eq_some_iff.mp H
 obtain ⟨t700, A30, H⟩ := H
 replace H : (some (decide (t700 ≥ 0))) = some r := H
 have A3 := Aside0.mk A30
 clear A30
 obtain rfl := Option.some.inj H
 go_enter Try.func100, Try.ntmps100
 go_wp2_with (first | ((with_reducible refine gate_callee (f := 139) rfl ?_); refine goesL_ (some 7) rfl rfl Try.func139 (by kernel_rfl) rfl #[.slice A0 l0.length c0, .func (.func 101) #[] #[]] rfl (by (try simp only [List.map_toArray, List.map_cons, List.map_nil]); first | done | rfl | (simp only [List.length_drop, List.length_take]; rfl)) ?_; (with_reducible refine (slices_IndexFunc_impl_CheckSlot_1.calls k _ _ l0  t700 _ ?side1 ?side2 A3.out).mono ?_); (case side1 => repeat (first | exact HR0.out | (with_reducible refine Kd.C_alloc ?_ _) | (with_reducible refine Kd.C_drewN ?_ _) | (with_reducible refine Kd.C_drew ?_))); (case side2 => exact HC0.out); rintro e w' ⟨rfl, ⟨nd, rfl⟩⟩; refine ⟨_, rfl, ?_⟩))
 go_ret
 exact ⟨by first | rfl | (simp; done) | (simp [*]; done) | (simp [bne]; done), by repeat (first | exact Drawn0.refl _ | apply Drawn0.step)⟩
end Go.Proofs.Ytleegjkloclolaa.PA
end
section
namespace Go.Proofs.Ytleegjkloclolaa.PA
open Go.RowKit Go.Proofs.YtleegjkloclolaaW.PrintWords Go.Proofs.YtleegjkloclolaaW.PrintLast Go.Proofs.YtleegjkloclolaaW.PrintMore
attribute [local go_sem] max2_int min2_int max_two min_two max_three min_three max_four min_four   -- for this text's walks alone
set_option linter.unusedVariables false
set_option linter.unusedSimpArgs false
def impl_CheckSlot.j0 : Nat → ByteArray → Int → List ByteArray → Bool → ByteArray → ByteArray → ByteArray → ByteArray → Bool → Option (Bool × Bool)
 | 0, _, _, _, _, _, _, _, _, _ => none
 | k + 1, x0, x1, x3, x32, x702000, x702001, x702002, x702003, x702004 => if x32 = true then (some (false, false)) else ((slices_ContainsFunc_impl_CheckSlot_1.f k x3).bind fun t705 => (if t705 = true then (some (false, false)) else ((impl_ListDigest.f k 115 x3).bind fun bt706 => (if bt706.1.toList = x0.toList then (if 0 ≤ x1 then (if x1 < (x3.length : Int) then (if x702000.size + x702002.size ≤ 9223372036854775807 then (some (((rdOf ByteArray.empty x3 x1).toList == (x702000 ++ x702002).toList), true)) else (none)) else (none)) else (none)) else (some (false, true))))))
def impl_CheckSlot.f (k : Nat) (a0 : ByteArray) (a1 : Int) (a2_0 : ByteArray) (a2_1 : ByteArray) (a2_2 : ByteArray) (a2_3 : ByteArray) (a2_4 : Bool) (l3 : List ByteArray) : Option (Bool × Bool) := (impl_isDigest.f a0).bind fun t702 => (if t702 = true then ((impl_isSlot.f k a2_0 a2_1 a2_2 a2_3 a2_4).bind fun t703 => (if t703 = true then (if (l3.length : Int) > 20 then (impl_CheckSlot.j0 k a0 a1 l3 true a2_0 a2_1 a2_2 a2_3 a2_4) else ((impl_within.f a1 0 (wrap64 ((l3.length : Int) - 1))).bind fun t704 => (impl_CheckSlot.j0 k a0 a1 l3 (!t704) a2_0 a2_1 a2_2 a2_3 a2_4))) else (impl_CheckSlot.j0 k a0 a1 l3 true a2_0 a2_1 a2_2 a2_3 a2_4))) else (impl_CheckSlot.j0 k a0 a1 l3 true a2_0 a2_1 a2_2 a2_3 a2_4))
set_option maxHeartbeats 8000000 in
set_option maxRecDepth 100000 in
theorem impl_CheckSlot.calls (k : Nat) (a0 : ByteArray) (a1 : Int) (a2_0 : ByteArray) (a2_1 : ByteArray) (a2_2 : ByteArray) (a2_3 : ByteArray) (a2_4 : Bool) (A3 : Option Addr) (c3 : Nat) (l3 : List ByteArray) (r1 : Bool) (r2 : Bool) (w : World) (hr3 : Kd.C Kd.string w A3 l3.length l3) (hc3 : l3.length ≤ c3) (h : impl_CheckSlot.f k a0 a1 a2_0 a2_1 a2_2 a2_3 a2_4 l3 = some (r1, r2)) :
  Calls Try.prog 49 #[.string a0, .int .i64 a1, .agg #[.string a2_0, .string a2_1, .string a2_2, .string a2_3, .bool a2_4], .slice A3 l3.length c3] w fun e w' => e = .returned (.tuple #[.bool r1, .bool r2]) ∧ Below w.heap.size w w' := by
 have hu67 := Try.underlying67
 have HR3 := Aside0.mk hr3
 have HC3 := Aside0.mk hc3
 clear hr3 hc3
 have HB := Aside0.mk (Below.refl w.heap.size w)
 have H : ((impl_isDigest.f a0).bind fun t702 => (if t702 = true then ((impl_isSlot.f k a2_0 a2_1 a2_2 a2_3 a2_4).bind fun t703 => (if t703 = true then (if (l3.length : Int) > 20 then (impl_CheckSlot.j0 k a0 a1 l3 true a2_0 a2_1 a2_2 a2_3 a2_4) else ((impl_within.f a1 0 (wrap64 ((l3.length : Int) - 1))).bind fun t704 => (impl_CheckSlot.j0 k a0 a1 l3 (!t704) a2_0 a2_1 a2_2 a2_3 a2_4))) else (impl_CheckSlot.j0 k a0 a1 l3 true a2_0 a2_1 a2_2 a2_3 a2_4))) else (impl_CheckSlot.j0 k a0 a1 l3 true a2_0 a2_1 a2_2 a2_3 a2_4))) = some (r1, r2) := h
 clear h
 have HC5 := Aside0.mk H
 clear H
 go_enter Try.func49, Try.ntmps49
 go_upto_region 1 with (first | ((with_reducible refine gate_dst (N := 6) rfl ?_); (try (refine gate_guard (by rfl) ?_; dsimp only)); refine box_event ?hg (N := 6) ?hd (cs := #[.string a2_0, .string a2_1, .string a2_2, .string a2_3, .bool a2_4]) (t := 67) ?hr ?_; (case hd => rfl); (case hg => rfl); (case hr => first | (go_simp; done) | (go_simp; rfl)); intro gb701 hg w6 hbox hb; have n0_ := Aside0.mk (below_step (by repeat (first | (with_reducible first | exact HB.out | apply below_alloc | apply pw_below_drewN | apply below_drew1) | exact HB.out)) hb); have n1_ := Aside0.mk (hbox); have n2_ := Aside0.mk ((by rw [hg]; exact (below_size (by repeat (first | (with_reducible first | exact HB.out | apply below_alloc | apply pw_below_drewN | apply below_drew1) | exact HB.out))) : w.heap.size ≤ gb701)); have n3_ := Aside0.mk ((by rw [hg]; exact (below_size (by repeat (first | (with_reducible first | exact HB.out | apply below_alloc | apply pw_below_drewN | apply below_drew1) | exact HB.out))) : w.heap.size ≤ gb701)); clear HB; have HB := n0_; have BK701 := n1_; have GW701 := n2_; have GE701 := n3_; clear n0_ n1_ n2_ n3_; clear hb hbox hg))
 repeat (go_quiet (first | ((with_reducible refine gate_dst (N := 6) rfl ?_); (try (refine gate_guard (by rfl) ?_; dsimp only)); refine box_event ?hg (N := 6) ?hd (cs := #[.string a2_0, .string a2_1, .string a2_2, .string a2_3, .bool a2_4]) (t := 67) ?hr ?_; (case hd => rfl); (case hg => rfl); (case hr => first | (go_simp; done) | (go_simp; rfl)); intro gb701 hg w6 hbox hb; have n0_ := Aside0.mk (below_step (by repeat (first | (with_reducible first | exact HB.out | apply below_alloc | apply pw_below_drewN | apply below_drew1) | exact HB.out)) hb); have n1_ := Aside0.mk (hbox); have n2_ := Aside0.mk ((by rw [hg]; exact (below_size (by repeat (first | (with_reducible first | exact HB.out | apply below_alloc | apply pw_below_drewN | apply below_drew1) | exact HB.out))) : w.heap.size ≤ gb701)); have n3_ := Aside0.mk ((by rw [hg]; exact (below_size (by repeat (first | (with_reducible first | exact HB.out | apply below_alloc | apply pw_below_drewN | apply below_drew1) | exact HB.out))) : w.heap.size ≤ gb701)); clear HB; have HB := n0_; have BK701 := n1_; have GW701 := n2_; have GE701 := n3_; clear n0_ n1_ n2_ n3_; clear hb hbox hg)); go_upto_region 1 with (first | ((with_reducible refine gate_dst (N := 6) rfl ?_); (try (refine gate_guard (by rfl) ?_; dsimp only)); refine box_event ?hg (N := 6) ?hd (cs := #[.string a2_0, .string a2_1, .string a2_2, .string a2_3, .bool a2_4]) (t := 67) ?hr ?_; (case hd => rfl); (case hg => rfl); (case hr => first | (go_simp; done) | (go_simp; rfl)); intro gb701 hg w6 hbox hb; have n0_ := Aside0.mk (below_step (by repeat (first | (with_reducible first | exact HB.out | apply below_alloc | apply pw_below_drewN | apply below_drew1) | exact HB.out)) hb); have n1_ := Aside0.mk (hbox); have n2_ := Aside0.mk ((by rw [hg]; exact (below_size (by repeat (first | (with_reducible first | exact HB.out | apply below_alloc | apply pw_below_drewN | apply below_drew1) | exact HB.out))) : w.heap.size ≤ gb701)); have n3_ := Aside0.mk ((by rw [hg]; exact (below_size (by repeat (first | (with_reducible first | exact HB.out | apply below_alloc | apply pw_below_drewN | apply below_drew1) | exact HB.out))) : w.heap.size ≤ gb701)); clear HB; have HB := n0_; have BK701 := n1_; have GW701 := n2_; have GE701 := n3_; clear n0_ n1_ n2_ n3_; clear hb hbox hg)))
 (try simp only [Act.put, List.setIfInBounds_toArray, List.set_cons_zero, List.set_cons_succ])
 go_cut [32] (fun v32 wc => ∃ (kq : Nat) (x32_4 : Bool), v32 = .bool x32_4 ∧ Aside0 (impl_CheckSlot.j0 kq a0 a1 l3 x32_4 a2_0 a2_1 a2_2 a2_3 a2_4 = some (r1, r2)) ∧ Aside0 (kq ≤ k) ∧ Aside0 (wc.heap[gb701]? = some (.cells #[.string a2_0, .string a2_1, .string a2_2, .string a2_3, .bool a2_4] 67 (0, 0))) ∧ Aside0 (Below w.heap.size w wc))
 case first =>
  have H := HC5.out
  clear HC5
  replace H := Option.bind_eq_some_iff.mp H
  obtain ⟨t702, A70, H⟩ := H
  replace H : (if t702 = true then ((impl_isSlot.f k a2_0 a2_1 a2_2 a2_3 a2_4).bind fun t703 => (if t703 = true then (if (l3.length : Int) > 20 then (impl_CheckSlot.j0 k a0 a1 l3 true a2_0 a2_1 a2_2 a2_3 a2_4) else ((impl_within.f a1 0 (wrap64 ((l3.length : Int) - 1))).bind fun t704 => (impl_CheckSlot.j0 k a0 a1 l3 (!t704) a2_0 a2_1 a2_2 a2_3 a2_4))) else (impl_CheckSlot.j0 k a0 a1 l3 true a2_0 a2_1 a2_2 a2_3 a2_4))) else (impl_CheckSlot.j0 k a0 a1 l3 true a2_0 a2_1 a2_2 a2_3 a2_4)) = some (r1, r2) := H
  have A7 := Aside0.mk A70
  clear A70
  by_cases c8 : t702 = true
  ·subst c8
   have H1 : ((impl_isSlot.f k a2_0 a2_1 a2_2 a2_3 a2_4).bind fun t703 => (if t703 = true then (if (l3.length : Int) > 20 then (impl_CheckSlot.j0 k a0 a1 l3 true a2_0 a2_1 a2_2 a2_3 a2_4) else ((impl_within.f a1 0 (wrap64 ((l3.length : Int) - 1))).bind fun t704 => (impl_CheckSlot.j0 k a0 a1 l3 (!t704) a2_0 a2_1 a2_2 a2_3 a2_4))) else (impl_CheckSlot.j0 k a0 a1 l3 true a2_0 a2_1 a2_2 a2_3 a2_4))) = some (r1, r2) := by rw [if_pos rfl] at H; exact H
   clear H
   have H := H1
   clear H1
   replace H := Option.bind_eq_some_iff.mp H
   obtain ⟨t703, A90, H⟩ := H
   replace H : (if t703 = true then (if (l3.length : Int) > 20 then (impl_CheckSlot.j0 k a0 a1 l3 true a2_0 a2_1 a2_2 a2_3 a2_4) else ((impl_within.f a1 0 (wrap64 ((l3.length : Int) - 1))).bind fun t704 => (impl_CheckSlot.j0 k a0 a1 l3 (!t704) a2_0 a2_1 a2_2 a2_3 a2_4))) else (impl_CheckSlot.j0 k a0 a1 l3 true a2_0 a2_1 a2_2 a2_3 a2_4)) = some (r1, r2) := H
   have A9 := Aside0.mk A90
   clear A90
   by_cases c10 : t703 = true
   ·subst c10
    have H1 : (if (l3.length : Int) > 20 then (impl_CheckSlot.j0 k a0 a1 l3 true a2_0 a2_1 a2_2 a2_3 a2_4) else ((impl_within.f a1 0 (wrap64 ((l3.length : Int) - 1))).bind fun t704 => (impl_CheckSlot.j0 k a0 a1 l3 (!t704) a2_0 a2_1 a2_2 a2_3 a2_4))) = some (r1, r2) := by rw [if_pos rfl] at H; exact H
    clear H
    have H := H1
    clear H1
    by_cases c11 : (l3.length : Int) > 20
    ·rw [if_pos c11] at H
     have c11b0 : decide (20 < (l3.length : Int)) = true := decide_eq_true c11
     have c11b1 : decide (20 < l3.length) = true := decide_eq_true (by omega)
     clear c11
     (first | rw [c11b0] | (simp only [i64_w, i32_w]; rw [c11b0]) | skip)
     have H' := Aside0.mk H
     clear H
     go_wp2_with (first | (go_at_call 82; (with_reducible refine (impl_isDigest.calls a0 true _ A7.out).mono ?_); rintro e w' ⟨rfl, ⟨nd, rfl⟩⟩; (try first | exact ⟨rfl, _, World.drewN_drewN _ _ _⟩ | exact ⟨rfl, _, Eq.trans (World.drewN_drewN _ _ _) (congrArg (World.drewN _) (Nat.add_assoc _ _ _))⟩); have hcz12_0 : w6.cell? ⟨gb701, 0, none⟩ = some (.string a2_0) := (blk_cell BK701.out 0).trans rfl; have hcz12_1 : w6.cell? ⟨gb701, 1, none⟩ = some (.string a2_1) := (blk_cell BK701.out 1).trans rfl; have hcz12_2 : w6.cell? ⟨gb701, 2, none⟩ = some (.string a2_2) := (blk_cell BK701.out 2).trans rfl; have hcz12_3 : w6.cell? ⟨gb701, 3, none⟩ = some (.string a2_3) := (blk_cell BK701.out 3).trans rfl; have hcz12_4 : w6.cell? ⟨gb701, 4, none⟩ = some (.bool a2_4) := (blk_cell BK701.out 4).trans rfl; have hfz12_0 := blk_frozen BK701.out 0; have hfz12_1 := blk_frozen BK701.out 1; have hfz12_2 := blk_frozen BK701.out 2; have hfz12_3 := blk_frozen BK701.out 3; have hfz12_4 := blk_frozen BK701.out 4) | (go_at_call 98; (with_reducible refine (impl_isSlot.calls k a2_0 a2_1 a2_2 a2_3 a2_4 true _ A9.out).mono ?_); rintro e w13 ⟨rfl, hb⟩; have n0_ := Aside0.mk (blk_below (g := gb701) (o := .cells #[.string a2_0, .string a2_1, .string a2_2, .string a2_3, .bool a2_4] 67 (0, 0)) (by (with_reducible repeat (first | refine blk_drewN ?_ _ | refine blk_drew ?_ | refine blk_alloc ?_ _)); exact BK701.out) hb); have n1_ := Aside0.mk (below_step (by repeat (first | (with_reducible first | exact HB.out | apply below_alloc | apply pw_below_drewN | apply below_drew1 | refine below_set ?_ GE701.out) | exact HB.out)) hb); clear BK701; clear HB; have BK701 := n0_; have HB := n1_; clear n0_ n1_; (try clear hb); (try clear hb2); (try clear hk); (try clear hi)))
     repeat (go_quiet (first | (go_at_call 82; (with_reducible refine (impl_isDigest.calls a0 true _ A7.out).mono ?_); rintro e w' ⟨rfl, ⟨nd, rfl⟩⟩; (try first | exact ⟨rfl, _, World.drewN_drewN _ _ _⟩ | exact ⟨rfl, _, Eq.trans (World.drewN_drewN _ _ _) (congrArg (World.drewN _) (Nat.add_assoc _ _ _))⟩); have hcz12_0 : w6.cell? ⟨gb701, 0, none⟩ = some (.string a2_0) := (blk_cell BK701.out 0).trans rfl; have hcz12_1 : w6.cell? ⟨gb701, 1, none⟩ = some (.string a2_1) := (blk_cell BK701.out 1).trans rfl; have hcz12_2 : w6.cell? ⟨gb701, 2, none⟩ = some (.string a2_2) := (blk_cell BK701.out 2).trans rfl; have hcz12_3 : w6.cell? ⟨gb701, 3, none⟩ = some (.string a2_3) := (blk_cell BK701.out 3).trans rfl; have hcz12_4 : w6.cell? ⟨gb701, 4, none⟩ = some (.bool a2_4) := (blk_cell BK701.out 4).trans rfl; have hfz12_0 := blk_frozen BK701.out 0; have hfz12_1 := blk_frozen BK701.out 1; have hfz12_2 := blk_frozen BK701.out 2; have hfz12_3 := blk_frozen BK701.out 3; have hfz12_4 := blk_frozen BK701.out 4) | (go_at_call 98; (with_reducible refine (impl_isSlot.calls k a2_0 a2_1 a2_2 a2_3 a2_4 true _ A9.out).mono ?_); rintro e w13 ⟨rfl, hb⟩; have n0_ := Aside0.mk (blk_below (g := gb701) (o := .cells #[.string a2_0, .string a2_1, .string a2_2, .string a2_3, .bool a2_4] 67 (0, 0)) (by (with_reducible repeat (first | refine blk_drewN ?_ _ | refine blk_drew ?_ | refine blk_alloc ?_ _)); exact BK701.out) hb); have n1_ := Aside0.mk (below_step (by repeat (first | (with_reducible first | exact HB.out | apply below_alloc | apply pw_below_drewN | apply below_drew1 | refine below_set ?_ GE701.out) | exact HB.out)) hb); clear BK701; clear HB; have BK701 := n0_; have HB := n1_; clear n0_ n1_; (try clear hb); (try clear hb2); (try clear hk); (try clear hi))); try go_wp2_with (first | (go_at_call 82; (with_reducible refine (impl_isDigest.calls a0 true _ A7.out).mono ?_); rintro e w' ⟨rfl, ⟨nd, rfl⟩⟩; (try first | exact ⟨rfl, _, World.drewN_drewN _ _ _⟩ | exact ⟨rfl, _, Eq.trans (World.drewN_drewN _ _ _) (congrArg (World.drewN _) (Nat.add_assoc _ _ _))⟩); have hcz12_0 : w6.cell? ⟨gb701, 0, none⟩ = some (.string a2_0) := (blk_cell BK701.out 0).trans rfl; have hcz12_1 : w6.cell? ⟨gb701, 1, none⟩ = some (.string a2_1) := (blk_cell BK701.out 1).trans rfl; have hcz12_2 : w6.cell? ⟨gb701, 2, none⟩ = some (.string a2_2) := (blk_cell BK701.out 2).trans rfl; have hcz12_3 : w6.cell? ⟨gb701, 3, none⟩ = some (.string a2_3) := (blk_cell BK701.out 3).trans rfl; have hcz12_4 : w6.cell? ⟨gb701, 4, none⟩ = some (.bool a2_4) := (blk_cell BK701.out 4).trans rfl; have hfz12_0 := blk_frozen BK701.out 0; have hfz12_1 := blk_frozen BK701.out 1; have hfz12_2 := blk_frozen BK701.out 2; have hfz12_3 := blk_frozen BK701.out 3; have hfz12_4 := blk_frozen BK701.out 4) | (go_at_call 98; (with_reducible refine (impl_isSlot.calls k a2_0 a2_1 a2_2 a2_3 a2_4 true _ A9.out).mono ?_); rintro e w13 ⟨rfl, hb⟩; have n0_ := Aside0.mk (blk_below (g := gb701) (o := .cells #[.string a2_0, .string a2_1, .string a2_2, .string a2_3, .bool a2_4] 67 (0, 0)) (by (with_reducible repeat (first | refine blk_drewN ?_ _ | refine blk_drew ?_ | refine blk_alloc ?_ _)); exact BK701.out) hb); have n1_ := Aside0.mk (below_step (by repeat (first | (with_reducible first | exact HB.out | apply below_alloc | apply pw_below_drewN | apply below_drew1 | refine below_set ?_ GE701.out) | exact HB.out)) hb); clear BK701; clear HB; have BK701 := n0_; have HB := n1_; clear n0_ n1_; (try clear hb); (try clear hb2); (try clear hk); (try clear hi))))
     go_meet
     case rel => exact ⟨_, (true), (by first | rfl | (simp; done) | (simp [*]; done) | (simp [bne]; done)), H', ⟨by first | omega | exact Nat.le_refl _⟩, ⟨by (with_reducible repeat (first | refine blk_drewN ?_ _ | refine blk_drew ?_ | refine blk_alloc ?_ _)); exact BK701.out⟩, ⟨by repeat (first | (with_reducible first | exact HB.out | apply below_alloc | apply pw_below_drewN | apply below_drew1 | refine below_set ?_ GE701.out) | exact HB.out)⟩⟩
    ·rw [if_neg c11] at H
     have c11b0 : decide (20 < (l3.length : Int)) = false := decide_eq_false c11
     have c11b1 : decide (20 < l3.length) = false := decide_eq_false (by omega)
     clear c11
     (first | rw [c11b0] | (simp only [i64_w, i32_w]; rw [c11b0]) | skip)
     replace H := Option.bind_eq_some_iff.mp H
     obtain ⟨t704, A140, H⟩ := H
     replace H : (impl_CheckSlot.j0 k a0 a1 l3 (!t704) a2_0 a2_1 a2_2 a2_3 a2_4) = some (r1, r2) := H
     have A14 := Aside0.mk A140
     clear A140
     have H' := Aside0.mk H
     clear H
     go_wp2_with (first | (go_at_call 82; (with_reducible refine (impl_isDigest.calls a0 true _ A7.out).mono ?_); rintro e w' ⟨rfl, ⟨nd, rfl⟩⟩; (try first | exact ⟨rfl, _, World.drewN_drewN _ _ _⟩ | exact ⟨rfl, _, Eq.trans (World.drewN_drewN _ _ _) (congrArg (World.drewN _) (Nat.add_assoc _ _ _))⟩); have hcz15_0 : w6.cell? ⟨gb701, 0, none⟩ = some (.string a2_0) := (blk_cell BK701.out 0).trans rfl; have hcz15_1 : w6.cell? ⟨gb701, 1, none⟩ = some (.string a2_1) := (blk_cell BK701.out 1).trans rfl; have hcz15_2 : w6.cell? ⟨gb701, 2, none⟩ = some (.string a2_2) := (blk_cell BK701.out 2).trans rfl; have hcz15_3 : w6.cell? ⟨gb701, 3, none⟩ = some (.string a2_3) := (blk_cell BK701.out 3).trans rfl; have hcz15_4 : w6.cell? ⟨gb701, 4, none⟩ = some (.bool a2_4) := (blk_cell BK701.out 4).trans rfl; have hfz15_0 := blk_frozen BK701.out 0; have hfz15_1 := blk_frozen BK701.out 1; have hfz15_2 := blk_frozen BK701.out 2; have hfz15_3 := blk_frozen BK701.out 3; have hfz15_4 := blk_frozen BK701.out 4) | (go_at_call 98; (with_reducible refine (impl_isSlot.calls k a2_0 a2_1 a2_2 a2_3 a2_4 true _ A9.out).mono ?_); rintro e w16 ⟨rfl, hb⟩; have n0_ := Aside0.mk (blk_below (g := gb701) (o := .cells #[.string a2_0, .string a2_1, .string a2_2, .string a2_3, .bool a2_4] 67 (0, 0)) (by (with_reducible repeat (first | refine blk_drewN ?_ _ | refine blk_drew ?_ | refine blk_alloc ?_ _)); exact BK701.out) hb); have n1_ := Aside0.mk (below_step (by repeat (first | (with_reducible first | exact HB.out | apply below_alloc | apply pw_below_drewN | apply below_drew1 | refine below_set ?_ GE701.out) | exact HB.out)) hb); clear BK701; clear HB; have BK701 := n0_; have HB := n1_; clear n0_ n1_; (try clear hb); (try clear hb2); (try clear hk); (try clear hi)) | (go_at_call 99; (with_reducible refine (impl_within.calls a1 0 (wrap64 ((l3.length : Int) - 1)) t704 _ A14.out).mono ?_); rintro e w' ⟨rfl, ⟨nd, rfl⟩⟩; (try first | exact ⟨rfl, _, World.drewN_drewN _ _ _⟩ | exact ⟨rfl, _, Eq.trans (World.drewN_drewN _ _ _) (congrArg (World.drewN _) (Nat.add_assoc _ _ _))⟩)))
     repeat (go_quiet (first | (go_at_call 82; (with_reducible refine (impl_isDigest.calls a0 true _ A7.out).mono ?_); rintro e w' ⟨rfl, ⟨nd, rfl⟩⟩; (try first | exact ⟨rfl, _, World.drewN_drewN _ _ _⟩ | exact ⟨rfl, _, Eq.trans (World.drewN_drewN _ _ _) (congrArg (World.drewN _) (Nat.add_assoc _ _ _))⟩); have hcz15_0 : w6.cell? ⟨gb701, 0, none⟩ = some (.string a2_0) := (blk_cell BK701.out 0).trans rfl; have hcz15_1 : w6.cell? ⟨gb701, 1, none⟩ = some (.string a2_1) := (blk_cell BK701.out 1).trans rfl; have hcz15_2 : w6.cell? ⟨gb701, 2, none⟩ = some (.string a2_2) := (blk_cell BK701.out 2).trans rfl; have hcz15_3 : w6.cell? ⟨gb701, 3, none⟩ = some (.string a2_3) := (blk_cell BK701.out 3).trans rfl; have hcz15_4 : w6.cell? ⟨gb701, 4, none⟩ = some (.bool a2_4) := (blk_cell BK701.out 4).trans rfl; have hfz15_0 := blk_frozen BK701.out 0; have hfz15_1 := blk_frozen BK701.out 1; have hfz15_2 := blk_frozen BK701.out 2; have hfz15_3 := blk_frozen BK701.out 3; have hfz15_4 := blk_frozen BK701.out 4) | (go_at_call 98; (with_reducible refine (impl_isSlot.calls k a2_0 a2_1 a2_2 a2_3 a2_4 true _ A9.out).mono ?_); rintro e w16 ⟨rfl, hb⟩; have n0_ := Aside0.mk (blk_below (g := gb701) (o := .cells #[.string a2_0, .string a2_1, .string a2_2, .string a2_3, .bool a2_4] 67 (0, 0)) (by (with_reducible repeat (first | refine blk_drewN ?_ _ | refine blk_drew ?_ | refine blk_alloc ?_ _)); exact BK701.out) hb); have n1_ := Aside0.mk (below_step (by repeat (first | (with_reducible first | exact HB.out | apply below_alloc | apply pw_below_drewN | apply below_drew1 | refine below_set ?_ GE701.out) | exact HB.out)) hb); clear BK701; clear HB; have BK701 := n0_; have HB := n1_; clear n0_ n1_; (try clear hb); (try clear hb2); (try clear hk); (try clear hi)) | (go_at_call 99; (with_reducible refine (impl_within.calls a1 0 (wrap64 ((l3.length : Int) - 1)) t704 _ A14.out).mono ?_); rintro e w' ⟨rfl, ⟨nd, rfl⟩⟩; (try first | exact ⟨rfl, _, World.drewN_drewN _ _ _⟩ | exact ⟨rfl, _, Eq.trans (World.drewN_drewN _ _ _) (congrArg (World.drewN _) (Nat.add_assoc _ _ _))⟩))); try go_wp2_with (first | (go_at_call 82; (with_reducible refine (impl_isDigest.calls a0 true _ A7.out).mono ?_); rintro e w' ⟨rfl, ⟨nd, rfl⟩⟩; (try first | exact ⟨rfl, _, World.drewN_drewN _ _ _⟩ | exact ⟨rfl, _, Eq.trans (World.drewN_drewN _ _ _) (congrArg (World.drewN _) (Nat.add_assoc _ _ _))⟩); have hcz15_0 : w6.cell? ⟨gb701, 0, none⟩ = some (.string a2_0) := (blk_cell BK701.out 0).trans rfl; have hcz15_1 : w6.cell? ⟨gb701, 1, none⟩ = some (.string a2_1) := (blk_cell BK701.out 1).trans rfl; have hcz15_2 : w6.cell? ⟨gb701, 2, none⟩ = some (.string a2_2) := (blk_cell BK701.out 2).trans rfl; have hcz15_3 : w6.cell? ⟨gb701, 3, none⟩ = some (.string a2_3) := (blk_cell BK701.out 3).trans rfl; have hcz15_4 : w6.cell? ⟨gb701, 4, none⟩ = some (.bool a2_4) := (blk_cell BK701.out 4).trans rfl; have hfz15_0 := blk_frozen BK701.out 0; have hfz15_1 := blk_frozen BK701.out 1; have hfz15_2 := blk_frozen BK701.out 2; have hfz15_3 := blk_frozen BK701.out 3; have hfz15_4 := blk_frozen BK701.out 4) | (go_at_call 98; (with_reducible refine (impl_isSlot.calls k a2_0 a2_1 a2_2 a2_3 a2_4 true _ A9.out).mono ?_); rintro e w16 ⟨rfl, hb⟩; have n0_ := Aside0.mk (blk_below (g := gb701) (o := .cells #[.string a2_0, .string a2_1, .string a2_2, .string a2_3, .bool a2_4] 67 (0, 0)) (by (with_reducible repeat (first | refine blk_drewN ?_ _ | refine blk_drew ?_ | refine blk_alloc ?_ _)); exact BK701.out) hb); have n1_ := Aside0.mk (below_step (by repeat (first | (with_reducible first | exact HB.out | apply below_alloc | apply pw_below_drewN | apply below_drew1 | refine below_set ?_ GE701.out) | exact HB.out)) hb); clear BK701; clear HB; have BK701 := n0_; have HB := n1_; clear n0_ n1_; (try clear hb); (try clear hb2); (try clear hk); (try clear hi)) | (go_at_call 99; (with_reducible refine (impl_within.calls a1 0 (wrap64 ((l3.length : Int) - 1)) t704 _ A14.out).mono ?_); rintro e w' ⟨rfl, ⟨nd, rfl⟩⟩; (try first | exact ⟨rfl, _, World.drewN_drewN _ _ _⟩ | exact ⟨rfl, _, Eq.trans (World.drewN_drewN _ _ _) (congrArg (World.drewN _) (Nat.add_assoc _ _ _))⟩))))
     go_meet
     case rel => exact ⟨_, (!t704), (by first | rfl | (simp; done) | (simp [*]; done) | (simp [bne]; done)), H', ⟨by first | omega | exact Nat.le_refl _⟩, ⟨by (with_reducible repeat (first | refine blk_drewN ?_ _ | refine blk_drew ?_ | refine blk_alloc ?_ _)); exact BK701.out⟩, ⟨by repeat (first | (with_reducible first | exact HB.out | apply below_alloc | apply pw_below_drewN | apply below_drew1 | refine below_set ?_ GE701.out) | exact HB.out)⟩⟩
   ·replace c10 := Bool.eq_false_iff.mpr c10
    subst c10
    have H1 : (impl_CheckSlot.j0 k a0 a1 l3 true a2_0 a2_1 a2_2 a2_3 a2_4) = some (r1, r2) := by rw [if_neg (show ¬ (false = true) by decide)] at H; exact H
    clear H
    have H := H1
    clear H1
    have H' := Aside0.mk H
    clear H
    go_wp2_with (first | (go_at_call 82; (with_reducible refine (impl_isDigest.calls a0 true _ A7.out).mono ?_); rintro e w' ⟨rfl, ⟨nd, rfl⟩⟩; (try first | exact ⟨rfl, _, World.drewN_drewN _ _ _⟩ | exact ⟨rfl, _, Eq.trans (World.drewN_drewN _ _ _) (congrArg (World.drewN _) (Nat.add_assoc _ _ _))⟩); have hcz17_0 : w6.cell? ⟨gb701, 0, none⟩ = some (.string a2_0) := (blk_cell BK701.out 0).trans rfl; have hcz17_1 : w6.cell? ⟨gb701, 1, none⟩ = some (.string a2_1) := (blk_cell BK701.out 1).trans rfl; have hcz17_2 : w6.cell? ⟨gb701, 2, none⟩ = some (.string a2_2) := (blk_cell BK701.out 2).trans rfl; have hcz17_3 : w6.cell? ⟨gb701, 3, none⟩ = some (.string a2_3) := (blk_cell BK701.out 3).trans rfl; have hcz17_4 : w6.cell? ⟨gb701, 4, none⟩ = some (.bool a2_4) := (blk_cell BK701.out 4).trans rfl; have hfz17_0 := blk_frozen BK701.out 0; have hfz17_1 := blk_frozen BK701.out 1; have hfz17_2 := blk_frozen BK701.out 2; have hfz17_3 := blk_frozen BK701.out 3; have hfz17_4 := blk_frozen BK701.out 4) | (go_at_call 98; (with_reducible refine (impl_isSlot.calls k a2_0 a2_1 a2_2 a2_3 a2_4 false _ A9.out).mono ?_); rintro e w18 ⟨rfl, hb⟩; have n0_ := Aside0.mk (blk_below (g := gb701) (o := .cells #[.string a2_0, .string a2_1, .string a2_2, .string a2_3, .bool a2_4] 67 (0, 0)) (by (with_reducible repeat (first | refine blk_drewN ?_ _ | refine blk_drew ?_ | refine blk_alloc ?_ _)); exact BK701.out) hb); have n1_ := Aside0.mk (below_step (by repeat (first | (with_reducible first | exact HB.out | apply below_alloc | apply pw_below_drewN | apply below_drew1 | refine below_set ?_ GE701.out) | exact HB.out)) hb); clear BK701; clear HB; have BK701 := n0_; have HB := n1_; clear n0_ n1_; (try clear hb); (try clear hb2); (try clear hk); (try clear hi)))
    repeat (go_quiet (first | (go_at_call 82; (with_reducible refine (impl_isDigest.calls a0 true _ A7.out).mono ?_); rintro e w' ⟨rfl, ⟨nd, rfl⟩⟩; (try first | exact ⟨rfl, _, World.drewN_drewN _ _ _⟩ | exact ⟨rfl, _, Eq.trans (World.drewN_drewN _ _ _) (congrArg (World.drewN _) (Nat.add_assoc _ _ _))⟩); have hcz17_0 : w6.cell? ⟨gb701, 0, none⟩ = some (.string a2_0) := (blk_cell BK701.out 0).trans rfl; have hcz17_1 : w6.cell? ⟨gb701, 1, none⟩ = some (.string a2_1) := (blk_cell BK701.out 1).trans rfl; have hcz17_2 : w6.cell? ⟨gb701, 2, none⟩ = some (.string a2_2) := (blk_cell BK701.out 2).trans rfl; have hcz17_3 : w6.cell? ⟨gb701, 3, none⟩ = some (.string a2_3) := (blk_cell BK701.out 3).trans rfl; have hcz17_4 : w6.cell? ⟨gb701, 4, none⟩ = some (.bool a2_4) := (blk_cell BK701.out 4).trans rfl; have hfz17_0 := blk_frozen BK701.out 0; have hfz17_1 := blk_frozen BK701.out 1; have hfz17_2 := blk_frozen BK701.out 2; have hfz17_3 := blk_frozen BK701.out 3; have hfz17_4 := blk_frozen BK701.out 4) | (go_at_call 98; (with_reducible refine (impl_isSlot.calls k a2_0 a2_1 a2_2 a2_3 a2_4 false _ A9.out).mono ?_); rintro e w18 ⟨rfl, hb⟩; have n0_ := Aside0.mk (blk_below (g := gb701) (o := .cells #[.string a2_0, .string a2_1, .string a2_2, .string a2_3, .bool a2_4] 67 (0, 0)) (by (with_reducible repeat (first | refine blk_drewN ?_ _ | refine blk_drew ?_ | refine blk_alloc ?_ _)); exact BK701.out) hb); have n1_ := Aside0.mk (below_step (by repeat (first | (with_reducible first | exact HB.out | apply below_alloc | apply pw_below_drewN | apply below_drew1 | refine below_set ?_ GE701.out) | exact HB.out)) hb); clear BK701; clear HB; have BK701 := n0_; have HB := n1_; clear n0_ n1_; (try clear hb); (try clear hb2); (try clear hk); (try clear hi))); try go_wp2_with (first | (go_at_call 82; (with_reducible refine (impl_isDigest.calls a0 true _ A7.out).mono ?_); rintro e w' ⟨rfl, ⟨nd, rfl⟩⟩; (try first | exact ⟨rfl, _, World.drewN_drewN _ _ _⟩ | exact ⟨rfl, _, Eq.trans (World.drewN_drewN _ _ _) (congrArg (World.drewN _) (Nat.add_assoc _ _ _))⟩); have hcz17_0 : w6.cell? ⟨gb701, 0, none⟩ = some (.string a2_0) := (blk_cell BK701.out 0).trans rfl; have hcz17_1 : w6.cell? ⟨gb701, 1, none⟩ = some (.string a2_1) := (blk_cell BK701.out 1).trans rfl; have hcz17_2 : w6.cell? ⟨gb701, 2, none⟩ = some (.string a2_2) := (blk_cell BK701.out 2).trans rfl; have hcz17_3 : w6.cell? ⟨gb701, 3, none⟩ = some (.string a2_3) := (blk_cell BK701.out 3).trans rfl; have hcz17_4 : w6.cell? ⟨gb701, 4, none⟩ = some (.bool a2_4) := (blk_cell BK701.out 4).trans rfl; have hfz17_0 := blk_frozen BK701.out 0; have hfz17_1 := blk_frozen BK701.out 1; have hfz17_2 := blk_frozen BK701.out 2; have hfz17_3 := blk_frozen BK701.out 3; have hfz17_4 := blk_frozen BK701.out 4) | (go_at_call 98; (with_reducible refine (impl_isSlot.calls k a2_0 a2_1 a2_2 a2_3 a2_4 false _ A9.out).mono ?_); rintro e w18 ⟨rfl, hb⟩; have n0_ := Aside0.mk (blk_below (g := gb701) (o := .cells #[.string a2_0, .string a2_1, .string a2_2, .string a2_3, .bool a2_4] 67 (0, 0)) (by (with_reducible repeat (first | refine blk_drewN ?_ _ | refine blk_drew ?_ | refine blk_alloc ?_ _)); exact BK701.out) hb); have n1_ := Aside0.mk (below_step (by repeat (first | (with_reducible first | exact HB.out | apply below_alloc | apply pw_below_drewN | apply below_drew1 | refine below_set ?_ GE701.out) | exact HB.out)) hb); clear BK701; clear HB; have BK701 := n0_; have HB := n1_; clear n0_ n1_; (try clear hb); (try clear hb2); (try clear hk); (try clear hi))))
    go_meet
    case rel => exact ⟨_, (true), (by first | rfl | (simp; done) | (simp [*]; done) | (simp [bne]; done)), H', ⟨by first | omega | exact Nat.le_refl _⟩, ⟨by (with_reducible repeat (first | refine blk_drewN ?_ _ | refine blk_drew ?_ | refine blk_alloc ?_ _)); exact BK701.out⟩, ⟨by repeat (first | (with_reducible first | exact HB.out | apply below_alloc | apply pw_below_drewN | apply below_drew1 | refine below_set ?_ GE701.out) | exact HB.out)⟩⟩
  ·replace c8 := Bool.eq_false_iff.mpr c8
   subst c8
   have H1 : (impl_CheckSlot.j0 k a0 a1 l3 true a2_0 a2_1 a2_2 a2_3 a2_4) = some (r1, r2) := by rw [if_neg (show ¬ (false = true) by decide)] at H; exact H
   clear H
   have H := H1
   clear H1
   have H' := Aside0.mk H
   clear H
   go_wp2_with (first | (go_at_call 82; (with_reducible refine (impl_isDigest.calls a0 false _ A7.out).mono ?_); rintro e w' ⟨rfl, ⟨nd, rfl⟩⟩; (try first | exact ⟨rfl, _, World.drewN_drewN _ _ _⟩ | exact ⟨rfl, _, Eq.trans (World.drewN_drewN _ _ _) (congrArg (World.drewN _) (Nat.add_assoc _ _ _))⟩)))
   repeat (go_quiet (first | (go_at_call 82; (with_reducible refine (impl_isDigest.calls a0 false _ A7.out).mono ?_); rintro e w' ⟨rfl, ⟨nd, rfl⟩⟩; (try first | exact ⟨rfl, _, World.drewN_drewN _ _ _⟩ | exact ⟨rfl, _, Eq.trans (World.drewN_drewN _ _ _) (congrArg (World.drewN _) (Nat.add_assoc _ _ _))⟩))); try go_wp2_with (first | (go_at_call 82; (with_reducible refine (impl_isDigest.calls a0 false _ A7.out).mono ?_); rintro e w' ⟨rfl, ⟨nd, rfl⟩⟩; (try first | exact ⟨rfl, _, World.drewN_drewN _ _ _⟩ | exact ⟨rfl, _, Eq.trans (World.drewN_drewN _ _ _) (congrArg (World.drewN _) (Nat.add_assoc _ _ _))⟩))))
   go_meet
   case rel => exact ⟨_, (true), (by first | rfl | (simp; done) | (simp [*]; done) | (simp [bne]; done)), H', ⟨by first | omega | exact Nat.le_refl _⟩, ⟨by (with_reducible repeat (first | refine blk_drewN ?_ _ | refine blk_drew ?_ | refine blk_alloc ?_ _)); exact BK701.out⟩, ⟨by repeat (first | (with_reducible first | exact HB.out | apply below_alloc | apply pw_below_drewN | apply below_drew1 | refine below_set ?_ GE701.out) | exact HB.out)⟩⟩
 case rest =>
  clear HC5
  try clear c1
  try clear p2
  try clear c3
  try clear c4
  try clear p6
  try clear c8
  try clear c10
  try clear c11
  try clear c11b0
  try clear c11b1
  try clear hcz12_0
  try clear hcz12_1
  try clear hcz12_2
  try clear hcz12_3
  try clear hcz12_4
  try clear hcz15_0
  try clear hcz15_1
  try clear hcz15_2
  try clear hcz15_3
  try clear hcz15_4
  try clear hcz17_0
  try clear hcz17_1
  try clear hcz17_2
  try clear hcz17_3
  try clear hcz17_4
  try clear hfz12_0
  try clear hfz12_1
  try clear hfz12_2
  try clear hfz12_3
  try clear hfz12_4
  try clear hfz15_0
  try clear hfz15_1
  try clear hfz15_2
  try clear hfz15_3
  try clear hfz15_4
  try clear hfz17_0
  try clear hfz17_1
  try clear hfz17_2
  try clear hfz17_3
  try clear hfz17_4
  obtain ⟨kq, x32_4, rfl, HA, HJ4, BK701, HB⟩ := hcut
  cases kq with
  | zero => exact absurd HA.out (by simp [impl_CheckSlot.j0])
  | succ kj4 =>
   have H := HA.out
   clear HA
   simp only [impl_CheckSlot.j0] at H
   by_cases c19 : x32_4 = true
   ·subst c19
    have H1 : (some (false, false)) = some (r1, r2) := by rw [if_pos rfl] at H; exact H
    clear H
    have H := H1
    clear H1
    simp only [Option.some.injEq, Prod.mk.injEq] at H
    obtain ⟨rfl, rfl⟩ := H
    go_wp2
    repeat (go_quiet (fail); try go_wp2)
    go_ret2
    exact ⟨by first | rfl | (simp [errW_none, errW_some] <;> rfl) | (simp [*, errW_none, errW_some] <;> rfl), by repeat (first | (with_reducible first | exact HB.out | apply below_alloc | apply pw_below_drewN | apply below_drew1 | refine below_set ?_ GE701.out) | exact HB.out)⟩
   ·replace c19 := Bool.eq_false_iff.mpr c19
    subst c19
    have H1 : ((slices_ContainsFunc_impl_CheckSlot_1.f kj4 l3).bind fun t705 => (if t705 = true then (some (false, false)) else ((impl_ListDigest.f kj4 115 l3).bind fun bt706 => (if bt706.1.toList = a0.toList then (if 0 ≤ a1 then (if a1 < (l3.length : Int) then (if a2_0.size + a2_2.size ≤ 9223372036854775807 then (some (((rdOf ByteArray.empty l3 a1).toList == (a2_0 ++ a2_2).toList), true)) else (none)) else (none)) else (none)) else (some (false, true)))))) = some (r1, r2) := by rw [if_neg (show ¬ (false = true) by decide)] at H; exact H
    clear H
    have H := H1
    clear H1
    replace H := Option.bind_eq_some_iff.mp H
    obtain ⟨t705, A200, H⟩ := H
    replace H : (if t705 = true then (some (false, false)) else ((impl_ListDigest.f kj4 115 l3).bind fun bt706 => (if bt706.1.toList = a0.toList then (if 0 ≤ a1 then (if a1 < (l3.length : Int) then (if a2_0.size + a2_2.size ≤ 9223372036854775807 then (some (((rdOf ByteArray.empty l3 a1).toList == (a2_0 ++ a2_2).toList), true)) else (none)) else (none)) else (none)) else (some (false, true))))) = some (r1, r2) := H
    have A20 := Aside0.mk A200
    clear A200
    by_cases c21 : t705 = true
    ·subst c21
     have H1 : (some (false, false)) = some (r1, r2) := by rw [if_pos rfl] at H; exact H
     clear H
     have H := H1
     clear H1
     simp only [Option.some.injEq, Prod.mk.injEq] at H
     obtain ⟨rfl, rfl⟩ := H
     go_wp2_with (first | (go_at_call 100; (with_reducible refine (slices_ContainsFunc_impl_CheckSlot_1.calls kj4 _ _ l3  true _ ?side1 ?side2 A20.out).mono ?_); (case side1 => repeat (first | exact (Kd.C_below HR3.out HB.out) | (with_reducible refine Kd.C_alloc ?_ _) | (with_reducible refine Kd.C_drewN ?_ _) | (with_reducible refine Kd.C_drew ?_))); (case side2 => exact HC3.out); rintro e w' ⟨rfl, ⟨nd, rfl⟩⟩; (try first | exact ⟨rfl, _, World.drewN_drewN _ _ _⟩ | exact ⟨rfl, _, Eq.trans (World.drewN_drewN _ _ _) (congrArg (World.drewN _) (Nat.add_assoc _ _ _))⟩)))
     repeat (go_quiet (first | (go_at_call 100; (with_reducible refine (slices_ContainsFunc_impl_CheckSlot_1.calls kj4 _ _ l3  true _ ?side1 ?side2 A20.out).mono ?_); (case side1 => repeat (first | exact (Kd.C_below HR3.out HB.out) | (with_reducible refine Kd.C_alloc ?_ _) | (with_reducible refine Kd.C_drewN ?_ _) | (with_reducible refine Kd.C_drew ?_))); (case side2 => exact HC3.out); rintro e w' ⟨rfl, ⟨nd, rfl⟩⟩; (try first | exact ⟨rfl, _, World.drewN_drewN _ _ _⟩ | exact ⟨rfl, _, Eq.trans (World.drewN_drewN _ _ _) (congrArg (World.drewN _) (Nat.add_assoc _ _ _))⟩))); try go_wp2_with (first | (go_at_call 100; (with_reducible refine (slices_ContainsFunc_impl_CheckSlot_1.calls kj4 _ _ l3  true _ ?side1 ?side2 A20.out).mono ?_); (case side1 => repeat (first | exact (Kd.C_below HR3.out HB.out) | (with_reducible refine Kd.C_alloc ?_ _) | (with_reducible refine Kd.C_drewN ?_ _) | (with_reducible refine Kd.C_drew ?_))); (case side2 => exact HC3.out); rintro e w' ⟨rfl, ⟨nd, rfl⟩⟩; (try first | exact ⟨rfl, _, World.drewN_drewN _ _ _⟩ | exact ⟨rfl, _, Eq.trans (World.drewN_drewN _ _ _) (congrArg (World.drewN _) (Nat.add_assoc _ _ _))⟩))))
     go_ret2
     exact ⟨by first | rfl | (simp [errW_none, errW_some] <;> rfl) | (simp [*, errW_none, errW_some] <;> rfl), by repeat (first | (with_reducible first | exact HB.out | apply below_alloc | apply pw_below_drewN | apply below_drew1 | refine below_set ?_ GE701.out) | exact HB.out)⟩
    ·replace c21 := Bool.eq_false_iff.mpr c21
     subst c21
     have H1 : ((impl_ListDigest.f kj4 115 l3).bind fun bt706 => (if bt706.1.toList = a0.toList then (if 0 ≤ a1 then (if a1 < (l3.length : Int) then (if a2_0.size + a2_2.size ≤ 9223372036854775807 then (some (((rdOf ByteArray.empty l3 a1).toList == (a2_0 ++ a2_2).toList), true)) else (none)) else (none)) else (none)) else (some (false, true)))) = some (r1, r2) := by rw [if_neg (show ¬ (false = true) by decide)] at H; exact H
     clear H
     have H := H1
     clear H1
     replace H := Option.bind_eq_some_iff.mp H
     obtain ⟨⟨t706, t707⟩, A220, H⟩ := H
     replace H : (if t706.toList = a0.toList then (if 0 ≤ a1 then (if a1 < (l3.length : Int) then (if a2_0.size + a2_2.size ≤ 9223372036854775807 then (some (((rdOf ByteArray.empty l3 a1).toList == (a2_0 ++ a2_2).toList), true)) else (none)) else (none)) else (none)) else (some (false, true))) = some (r1, r2) := H
     have A22 := Aside0.mk A220
     clear A220
     by_cases c23 : t706.toList = a0.toList
     ·rw [if_pos c23] at H
      have c23b0 : (t706.toList == a0.toList) = true := beq_iff_eq.mpr c23
      have c23b1 : (t706.toList != a0.toList) = false := bne_eq_false_iff_eq.mpr c23
      clear c23
      by_cases c24 : 0 ≤ a1
      ·rw [if_pos c24] at H
       have c24b0 : decide (0 ≤ a1) = true := decide_eq_true c24
       clear c24
       by_cases c25 : a1 < (l3.length : Int)
       ·rw [if_pos c25] at H
        have c25b0 : decide (a1 < (l3.length : Int)) = true := decide_eq_true c25
        clear c25
        by_cases c26 : a2_0.size + a2_2.size ≤ 9223372036854775807
        ·rw [if_pos c26] at H
         have c26b0 := eq_true c26
         have c26b1 : decide (a2_0.size + a2_2.size ≤ 9223372036854775807) = true := decide_eq_true c26
         try have c26b2 : (9223372036854775807 < a2_0.size + a2_2.size) = False := eq_false (Nat.not_lt.2 c26)
         simp only [Option.some.injEq, Prod.mk.injEq] at H
         obtain ⟨rfl, rfl⟩ := H
         go_wp2_with (first | (go_at_call 100; (with_reducible refine (slices_ContainsFunc_impl_CheckSlot_1.calls kj4 _ _ l3  false _ ?side1 ?side2 A20.out).mono ?_); (case side1 => repeat (first | exact (Kd.C_below HR3.out HB.out) | (with_reducible refine Kd.C_alloc ?_ _) | (with_reducible refine Kd.C_drewN ?_ _) | (with_reducible refine Kd.C_drew ?_))); (case side2 => exact HC3.out); rintro e w' ⟨rfl, ⟨nd, rfl⟩⟩; (try first | exact ⟨rfl, _, World.drewN_drewN _ _ _⟩ | exact ⟨rfl, _, Eq.trans (World.drewN_drewN _ _ _) (congrArg (World.drewN _) (Nat.add_assoc _ _ _))⟩)) | (go_at_call 44; (with_reducible refine (impl_ListDigest.calls kj4 115 _ _ l3 t706 t707 _ ?side1 ?side2 A22.out).mono ?_); (case side1 => repeat (first | exact (Kd.C_below HR3.out (by repeat (first | (with_reducible first | exact HB.out | apply below_alloc | apply pw_below_drewN | apply below_drew1 | refine below_set ?_ GE701.out) | exact HB.out))) | (with_reducible refine Kd.C_alloc ?_ _) | (with_reducible refine Kd.C_drewN ?_ _) | (with_reducible refine Kd.C_drew ?_))); (case side2 => exact HC3.out); rintro e w27 ⟨rfl, hb⟩; have n0_ := Aside0.mk (blk_below (g := gb701) (o := .cells #[.string a2_0, .string a2_1, .string a2_2, .string a2_3, .bool a2_4] 67 (0, 0)) (by (with_reducible repeat (first | refine blk_drewN ?_ _ | refine blk_drew ?_ | refine blk_alloc ?_ _)); exact BK701.out) hb); have n1_ := Aside0.mk (below_step (by repeat (first | (with_reducible first | exact HB.out | apply below_alloc | apply pw_below_drewN | apply below_drew1 | refine below_set ?_ GE701.out) | exact HB.out)) hb); clear BK701; clear HB; have BK701 := n0_; have HB := n1_; clear n0_ n1_; (try clear hb); (try clear hb2); (try clear hk); (try clear hi); have p708 : 0 ≤ (a1 : Int) := of_decide_eq_true (by first | (with_reducible assumption) | assumption); have q708 : a1 < (l3.length : Int) := of_decide_eq_true (by first | (with_reducible assumption) | assumption); obtain ⟨ad708, e708, hx708_0⟩ := Kd.at_string HR3.out a1 p708 q708; cases e708; replace hx708_0 := (HB.out.cell (World.block_lt_of_cell? w _ hx708_0)).trans hx708_0; replace p708 := eq_true p708; replace q708 := eq_true q708; have hcz28_0 : w27.cell? ⟨gb701, 0, none⟩ = some (.string a2_0) := (blk_cell BK701.out 0).trans rfl; have hcz28_1 : w27.cell? ⟨gb701, 1, none⟩ = some (.string a2_1) := (blk_cell BK701.out 1).trans rfl; have hcz28_2 : w27.cell? ⟨gb701, 2, none⟩ = some (.string a2_2) := (blk_cell BK701.out 2).trans rfl; have hcz28_3 : w27.cell? ⟨gb701, 3, none⟩ = some (.string a2_3) := (blk_cell BK701.out 3).trans rfl; have hcz28_4 : w27.cell? ⟨gb701, 4, none⟩ = some (.bool a2_4) := (blk_cell BK701.out 4).trans rfl; have hfz28_0 := blk_frozen BK701.out 0; have hfz28_1 := blk_frozen BK701.out 1; have hfz28_2 := blk_frozen BK701.out 2; have hfz28_3 := blk_frozen BK701.out 3; have hfz28_4 := blk_frozen BK701.out 4))
         repeat (go_quiet (first | (go_at_call 100; (with_reducible refine (slices_ContainsFunc_impl_CheckSlot_1.calls kj4 _ _ l3  false _ ?side1 ?side2 A20.out).mono ?_); (case side1 => repeat (first | exact (Kd.C_below HR3.out HB.out) | (with_reducible refine Kd.C_alloc ?_ _) | (with_reducible refine Kd.C_drewN ?_ _) | (with_reducible refine Kd.C_drew ?_))); (case side2 => exact HC3.out); rintro e w' ⟨rfl, ⟨nd, rfl⟩⟩; (try first | exact ⟨rfl, _, World.drewN_drewN _ _ _⟩ | exact ⟨rfl, _, Eq.trans (World.drewN_drewN _ _ _) (congrArg (World.drewN _) (Nat.add_assoc _ _ _))⟩)) | (go_at_call 44; (with_reducible refine (impl_ListDigest.calls kj4 115 _ _ l3 t706 t707 _ ?side1 ?side2 A22.out).mono ?_); (case side1 => repeat (first | exact (Kd.C_below HR3.out (by repeat (first | (with_reducible first | exact HB.out | apply below_alloc | apply pw_below_drewN | apply below_drew1 | refine below_set ?_ GE701.out) | exact HB.out))) | (with_reducible refine Kd.C_alloc ?_ _) | (with_reducible refine Kd.C_drewN ?_ _) | (with_reducible refine Kd.C_drew ?_))); (case side2 => exact HC3.out); rintro e w27 ⟨rfl, hb⟩; have n0_ := Aside0.mk (blk_below (g := gb701) (o := .cells #[.string a2_0, .string a2_1, .string a2_2, .string a2_3, .bool a2_4] 67 (0, 0)) (by (with_reducible repeat (first | refine blk_drewN ?_ _ | refine blk_drew ?_ | refine blk_alloc ?_ _)); exact BK701.out) hb); have n1_ := Aside0.mk (below_step (by repeat (first | (with_reducible first | exact HB.out | apply below_alloc | apply pw_below_drewN | apply below_drew1 | refine below_set ?_ GE701.out) | exact HB.out)) hb); clear BK701; clear HB; have BK701 := n0_; have HB := n1_; clear n0_ n1_; (try clear hb); (try clear hb2); (try clear hk); (try clear hi); have p708 : 0 ≤ (a1 : Int) := of_decide_eq_true (by first | (with_reducible assumption) | assumption); have q708 : a1 < (l3.length : Int) := of_decide_eq_true (by first | (with_reducible assumption) | assumption); obtain ⟨ad708, e708, hx708_0⟩ := Kd.at_string HR3.out a1 p708 q708; cases e708; replace hx708_0 := (HB.out.cell (World.block_lt_of_cell? w _ hx708_0)).trans hx708_0; replace p708 := eq_true p708; replace q708 := eq_true q708; have hcz28_0 : w27.cell? ⟨gb701, 0, none⟩ = some (.string a2_0) := (blk_cell BK701.out 0).trans rfl; have hcz28_1 : w27.cell? ⟨gb701, 1, none⟩ = some (.string a2_1) := (blk_cell BK701.out 1).trans rfl; have hcz28_2 : w27.cell? ⟨gb701, 2, none⟩ = some (.string a2_2) := (blk_cell BK701.out 2).trans rfl; have hcz28_3 : w27.cell? ⟨gb701, 3, none⟩ = some (.string a2_3) := (blk_cell BK701.out 3).trans rfl; have hcz28_4 : w27.cell? ⟨gb701, 4, none⟩ = some (.bool a2_4) := (blk_cell BK701.out 4).trans rfl; have hfz28_0 := blk_frozen BK701.out 0; have hfz28_1 := blk_frozen BK701.out 1; have hfz28_2 := blk_frozen BK701.out 2; have hfz28_3 := blk_frozen BK701.out 3; have hfz28_4 := blk_frozen BK701.out 4)); try go_wp2_with (first | (go_at_call 100; (with_reducible refine (slices_ContainsFunc_impl_CheckSlot_1.calls kj4 _ _ l3  false _ ?side1 ?side2 A20.out).mono ?_); (case side1 => repeat (first | exact (Kd.C_below HR3.out HB.out) | (with_reducible refine Kd.C_alloc ?_ _) | (with_reducible refine Kd.C_drewN ?_ _) | (with_reducible refine Kd.C_drew ?_))); (case side2 => exact HC3.out); rintro e w' ⟨rfl, ⟨nd, rfl⟩⟩; (try first | exact ⟨rfl, _, World.drewN_drewN _ _ _⟩ | exact ⟨rfl, _, Eq.trans (World.drewN_drewN _ _ _) (congrArg (World.drewN _) (Nat.add_assoc _ _ _))⟩)) | (go_at_call 44; (with_reducible refine (impl_ListDigest.calls kj4 115 _ _ l3 t706 t707 _ ?side1 ?side2 A22.out).mono ?_); (case side1 => repeat (first | exact (Kd.C_below HR3.out (by repeat (first | (with_reducible first | exact HB.out | apply below_alloc | apply pw_below_drewN | apply below_drew1 | refine below_set ?_ GE701.out) | exact HB.out))) | (with_reducible refine Kd.C_alloc ?_ _) | (with_reducible refine Kd.C_drewN ?_ _) | (with_reducible refine Kd.C_drew ?_))); (case side2 => exact HC3.out); rintro e w27 ⟨rfl, hb⟩; have n0_ := Aside0.mk (blk_below (g := gb701) (o := .cells #[.string a2_0, .string a2_1, .string a2_2, .string a2_3, .bool a2_4] 67 (0, 0)) (by (with_reducible repeat (first | refine blk_drewN ?_ _ | refine blk_drew ?_ | refine blk_alloc ?_ _)); exact BK701.out) hb); have n1_ := Aside0.mk (below_step (by repeat (first | (with_reducible first | exact HB.out | apply below_alloc | apply pw_below_drewN | apply below_drew1 | refine below_set ?_ GE701.out) | exact HB.out)) hb); clear BK701; clear HB; have BK701 := n0_; have HB := n1_; clear n0_ n1_; (try clear hb); (try clear hb2); (try clear hk); (try clear hi); have p708 : 0 ≤ (a1 : Int) := of_decide_eq_true (by first | (with_reducible assumption) | assumption); have q708 : a1 < (l3.length : Int) := of_decide_eq_true (by first | (with_reducible assumption) | assumption); obtain ⟨ad708, e708, hx708_0⟩ := Kd.at_string HR3.out a1 p708 q708; cases e708; replace hx708_0 := (HB.out.cell (World.block_lt_of_cell? w _ hx708_0)).trans hx708_0; replace p708 := eq_true p708; replace q708 := eq_true q708; have hcz28_0 : w27.cell? ⟨gb701, 0, none⟩ = some (.string a2_0) := (blk_cell BK701.out 0).trans rfl; have hcz28_1 : w27.cell? ⟨gb701, 1, none⟩ = some (.string a2_1) := (blk_cell BK701.out 1).trans rfl; have hcz28_2 : w27.cell? ⟨gb701, 2, none⟩ = some (.string a2_2) := (blk_cell BK701.out 2).trans rfl; have hcz28_3 : w27.cell? ⟨gb701, 3, none⟩ = some (.string a2_3) := (blk_cell BK701.out 3).trans rfl; have hcz28_4 : w27.cell? ⟨gb701, 4, none⟩ = some (.bool a2_4) := (blk_cell BK701.out 4).trans rfl; have hfz28_0 := blk_frozen BK701.out 0; have hfz28_1 := blk_frozen BK701.out 1; have hfz28_2 := blk_frozen BK701.out 2; have hfz28_3 := blk_frozen BK701.out 3; have hfz28_4 := blk_frozen BK701.out 4)))
         go_ret2
         exact ⟨by first | rfl | (simp [errW_none, errW_some] <;> rfl) | (simp [*, errW_none, errW_some] <;> rfl), by repeat (first | (with_reducible first | exact HB.out | apply below_alloc | apply pw_below_drewN | apply below_drew1 | refine below_set ?_ GE701.out) | exact HB.out)⟩
        ·rw [if_neg c26] at H
         exact absurd H (by simp)
       ·rw [if_neg c25] at H
        exact absurd H (by simp)
      ·rw [if_neg c24] at H
       exact absurd H (by simp)
     ·rw [if_neg c23] at H
      have c23b0 : (t706.toList == a0.toList) = false := beq_eq_false_iff_ne.mpr c23
      have c23b1 : (t706.toList != a0.toList) = true := bne_iff_ne.mpr c23
      simp only [Option.some.injEq, Prod.mk.injEq] at H
      obtain ⟨rfl, rfl⟩ := H
      go_wp2_with (first | (go_at_call 100; (with_reducible refine (slices_ContainsFunc_impl_CheckSlot_1.calls kj4 _ _ l3  false _ ?side1 ?side2 A20.out).mono ?_); (case side1 => repeat (first | exact (Kd.C_below HR3.out HB.out) | (with_reducible refine Kd.C_alloc ?_ _) | (with_reducible refine Kd.C_drewN ?_ _) | (with_reducible refine Kd.C_drew ?_))); (case side2 => exact HC3.out); rintro e w' ⟨rfl, ⟨nd, rfl⟩⟩; (try first | exact ⟨rfl, _, World.drewN_drewN _ _ _⟩ | exact ⟨rfl, _, Eq.trans (World.drewN_drewN _ _ _) (congrArg (World.drewN _) (Nat.add_assoc _ _ _))⟩)) | (go_at_call 44; (with_reducible refine (impl_ListDigest.calls kj4 115 _ _ l3 t706 t707 _ ?side1 ?side2 A22.out).mono ?_); (case side1 => repeat (first | exact (Kd.C_below HR3.out (by repeat (first | (with_reducible first | exact HB.out | apply below_alloc | apply pw_below_drewN | apply below_drew1 | refine below_set ?_ GE701.out) | exact HB.out))) | (with_reducible refine Kd.C_alloc ?_ _) | (with_reducible refine Kd.C_drewN ?_ _) | (with_reducible refine Kd.C_drew ?_))); (case side2 => exact HC3.out); rintro e w29 ⟨rfl, hb⟩; have n0_ := Aside0.mk (blk_below (g := gb701) (o := .cells #[.string a2_0, .string a2_1, .string a2_2, .string a2_3, .bool a2_4] 67 (0, 0)) (by (with_reducible repeat (first | refine blk_drewN ?_ _ | refine blk_drew ?_ | refine blk_alloc ?_ _)); exact BK701.out) hb); have n1_ := Aside0.mk (below_step (by repeat (first | (with_reducible first | exact HB.out | apply below_alloc | apply pw_below_drewN | apply below_drew1 | refine below_set ?_ GE701.out) | exact HB.out)) hb); clear BK701; clear HB; have BK701 := n0_; have HB := n1_; clear n0_ n1_; (try clear hb); (try clear hb2); (try clear hk); (try clear hi)))
      repeat (go_quiet (first | (go_at_call 100; (with_reducible refine (slices_ContainsFunc_impl_CheckSlot_1.calls kj4 _ _ l3  false _ ?side1 ?side2 A20.out).mono ?_); (case side1 => repeat (first | exact (Kd.C_below HR3.out HB.out) | (with_reducible refine Kd.C_alloc ?_ _) | (with_reducible refine Kd.C_drewN ?_ _) | (with_reducible refine Kd.C_drew ?_))); (case side2 => exact HC3.out); rintro e w' ⟨rfl, ⟨nd, rfl⟩⟩; (try first | exact ⟨rfl, _, World.drewN_drewN _ _ _⟩ | exact ⟨rfl, _, Eq.trans (World.drewN_drewN _ _ _) (congrArg (World.drewN _) (Nat.add_assoc _ _ _))⟩)) | (go_at_call 44; (with_reducible refine (impl_ListDigest.calls kj4 115 _ _ l3 t706 t707 _ ?side1 ?side2 A22.out).mono ?_); (case side1 => repeat (first | exact (Kd.C_below HR3.out (by repeat (first | (with_reducible first | exact HB.out | apply below_alloc | apply pw_below_drewN | apply below_drew1 | refine below_set ?_ GE701.out) | exact HB.out))) | (with_reducible refine Kd.C_alloc ?_ _) | (with_reducible refine Kd.C_drewN ?_ _) | (with_reducible refine Kd.C_drew ?_))); (case side2 => exact HC3.out); rintro e w29 ⟨rfl, hb⟩; have n0_ := Aside0.mk (blk_below (g := gb701) (o := .cells #[.string a2_0, .string a2_1, .string a2_2, .string a2_3, .bool a2_4] 67 (0, 0)) (by (with_reducible repeat (first | refine blk_drewN ?_ _ | refine blk_drew ?_ | refine blk_alloc ?_ _)); exact BK701.out) hb); have n1_ := Aside0.mk (below_step (by repeat (first | (with_reducible first | exact HB.out | apply below_alloc | apply pw_below_drewN | apply below_drew1 | refine below_set ?_ GE701.out) | exact HB.out)) hb); clear BK701; clear HB; have BK701 := n0_; have HB := n1_; clear n0_ n1_; (try clear hb); (try clear hb2); (try clear hk); (try clear hi))); try go_wp2_with (first | (go_at_call 100; (with_reducible refine (slices_ContainsFunc_impl_CheckSlot_1.calls kj4 _ _ l3  false _ ?side1 ?side2 A20.out).mono ?_); (case side1 => repeat (first | exact (Kd.C_below HR3.out HB.out) | (with_reducible refine Kd.C_alloc ?_ _) | (with_reducible refine Kd.C_drewN ?_ _) | (with_reducible refine Kd.C_drew ?_))); (case side2 => exact HC3.out); rintro e w' ⟨rfl, ⟨nd, rfl⟩⟩; (try first | exact ⟨rfl, _, World.drewN_drewN _ _ _⟩ | exact ⟨rfl, _, Eq.trans (World.drewN_drewN _ _ _) (congrArg (World.drewN _) (Nat.add_assoc _ _ _))⟩)) | (go_at_call 44; (with_reducible refine (impl_ListDigest.calls kj4 115 _ _ l3 t706 t707 _ ?side1 ?side2 A22.out).mono ?_); (case side1 => repeat (first | exact (Kd.C_below HR3.out (by repeat (first | (with_reducible first | exact HB.out | apply below_alloc | apply pw_below_drewN | apply below_drew1 | refine below_set ?_ GE701.out) | exact HB.out))) | (with_reducible refine Kd.C_alloc ?_ _) | (with_reducible refine Kd.C_drewN ?_ _) | (with_reducible refine Kd.C_drew ?_))); (case side2 => exact HC3.out); rintro e w29 ⟨rfl, hb⟩; have n0_ := Aside0.mk (blk_below (g := gb701) (o := .cells #[.string a2_0, .string a2_1, .string a2_2, .string a2_3, .bool a2_4] 67 (0, 0)) (by (with_reducible repeat (first | refine blk_drewN ?_ _ | refine blk_drew ?_ | refine blk_alloc ?_ _)); exact BK701.out) hb); have n1_ := Aside0.mk (below_step (by repeat (first | (with_reducible first | exact HB.out | apply below_alloc | apply pw_below_drewN | apply below_drew1 | refine below_set ?_ GE701.out) | exact HB.out)) hb); clear BK701; clear HB; have BK701 := n0_; have HB := n1_; clear n0_ n1_; (try clear hb); (try clear hb2); (try clear hk); (try clear hi))))
      go_ret2
      exact ⟨by first | rfl | (simp [errW_none, errW_some] <;> rfl) | (simp [*, errW_none, errW_some] <;> rfl), by repeat (first | (with_reducible first | exact HB.out | apply below_alloc | apply pw_below_drewN | apply below_drew1 | refine below_set ?_ GE701.out) | exact HB.out)⟩
end Go.Proofs.Ytleegjkloclolaa.PA
end
section
namespace Go.Proofs.Ytleegjkloclolaa.PA
open Go.RowKit Go.Proofs.YtleegjkloclolaaW.PrintWords Go.Proofs.YtleegjkloclolaaW.PrintLast Go.Proofs.YtleegjkloclolaaW.PrintMore
attribute [local go_sem] max2_int min2_int max_two min_two max_three min_three max_four min_four   -- for this text's walks alone
set_option linter.unusedVariables false
set_option linter.unusedSimpArgs false
def laws_FnExactCheckSlot.j0 : Nat → List ByteArray → List ByteArray → Bool → Option (Bool)
 | 0, _, _, _ => none
 | k + 1, x3, x12, x56 => if x56 = true then (some false) else ((laws_toStringS.f k x3).bind fun t732 => ((laws_eqStringS.f k x12 t732).bind fun t735 => (if t735 = true then (some true) else (some false))))
def laws_FnExactCheckSlot.f (k : Nat) (a0 : ByteArray) (a1 : Int) (a2_0 : ByteArray) (a2_1 : ByteArray) (a2_2 : ByteArray) (a2_3 : ByteArray) (a2_4 : Bool) (l3 : List ByteArray) : Option (Bool) := if (a0.size : Int) > 1048576 then (some true) else ((laws_szSlot.f a2_0 a2_1 a2_2 a2_3 a2_4 1048576).bind fun t710 => (if t710 < 0 then (some true) else ((laws_szStringS.f k l3 t710).bind fun t711 => (if t711 < 0 then (some true) else ((laws_toSlot.f a2_0 a2_1 a2_2 a2_3 a2_4).bind fun bt712 => ((laws_toStringS.f k l3).bind fun t717 => ((spec_CheckSlot.f k a0 a1 bt712.1 bt712.2.1 bt712.2.2.1 bt712.2.2.2.1 bt712.2.2.2.2 t717).bind fun bt720 => ((laws_toStringS.f k l3).bind fun t722 => ((laws_toSlot.f a2_0 a2_1 a2_2 a2_3 a2_4).bind fun bt725 => ((impl_CheckSlot.f k a0 a1 bt725.1 bt725.2.1 bt725.2.2.1 bt725.2.2.2.1 bt725.2.2.2.2 t722).bind fun bt730 => (if (bt730.1 != bt720.1) = true then (laws_FnExactCheckSlot.j0 k l3 t722 true) else (laws_FnExactCheckSlot.j0 k l3 t722 (bt730.2 != bt720.2)))))))))))))
set_option maxHeartbeats 8000000 in
set_option maxRecDepth 100000 in
theorem laws_FnExactCheckSlot.calls (k : Nat) (a0 : ByteArray) (a1 : Int) (a2_0 : ByteArray) (a2_1 : ByteArray) (a2_2 : ByteArray) (a2_3 : ByteArray) (a2_4 : Bool) (A3 : Option Addr) (c3 : Nat) (l3 : List ByteArray) (r : Bool) (w : World) (hr3 : Kd.C Kd.string w A3 l3.length l3) (hc3 : l3.length ≤ c3) (h : laws_FnExactCheckSlot.f k a0 a1 a2_0 a2_1 a2_2 a2_3 a2_4 l3 = some r) :
  Calls Try.prog 9 #[.string a0, .int .i64 a1, .agg #[.string a2_0, .string a2_1, .string a2_2, .string a2_3, .bool a2_4], .slice A3 l3.length c3] w fun e w' => e = .returned (.bool r) ∧ Below w.heap.size w w' := by
 have hu64 := Try.underlying64
 have HR3 := Aside0.mk hr3
 have HC3 := Aside0.mk hc3
 clear hr3 hc3
 have HB := Aside0.mk (Below.refl w.heap.size w)
 have H : (if (a0.size : Int) > 1048576 then (some true) else ((laws_szSlot.f a2_0 a2_1 a2_2 a2_3 a2_4 1048576).bind fun t710 => (if t710 < 0 then (some true) else ((laws_szStringS.f k l3 t710).bind fun t711 => (if t711 < 0 then (some true) else ((laws_toSlot.f a2_0 a2_1 a2_2 a2_3 a2_4).bind fun bt712 => ((laws_toStringS.f k l3).bind fun t717 => ((spec_CheckSlot.f k a0 a1 bt712.1 bt712.2.1 bt712.2.2.1 bt712.2.2.2.1 bt712.2.2.2.2 t717).bind fun bt720 => ((laws_toStringS.f k l3).bind fun t722 => ((laws_toSlot.f a2_0 a2_1 a2_2 a2_3 a2_4).bind fun bt725 => ((impl_CheckSlot.f k a0 a1 bt725.1 bt725.2.1 bt725.2.2.1 bt725.2.2.2.1 bt725.2.2.2.2 t722).bind fun bt730 => (if (bt730.1 != bt720.1) = true then (laws_FnExactCheckSlot.j0 k l3 t722 true) else (laws_FnExactCheckSlot.j0 k l3 t722 (bt730.2 != bt720.2)))))))))))))) = some r := h
 clear h
 by_cases c5 : (a0.size : Int) > 1048576
 ·rw [if_pos c5] at H
  have c5b0 : decide (1048576 < (a0.size : Int)) = true := decide_eq_true c5
  have c5b1 : decide (1048576 < a0.size) = true := decide_eq_true (by omega)
  clear c5
  obtain rfl := Option.some.inj H
  go_enter Try.func9, Try.ntmps9
  go_wp2_with (first | ((with_reducible refine gate_dst (N := 6) rfl ?_); refine box_event ?hg (N := 6) ?hd (cs := #[.string a2_0, .string a2_1, .string a2_2, .string a2_3, .bool a2_4]) (t := 64) ?hr ?_; (case hd => rfl); (case hg => rfl); (case hr => first | (go_simp; done) | (go_simp; rfl)); intro gb709 hg w6 hbox hb; have n0_ := Aside0.mk (below_step (by repeat (first | (with_reducible first | exact HB.out | apply below_alloc | apply pw_below_drewN | apply below_drew1) | exact HB.out)) hb); have n1_ := Aside0.mk (hbox); have n2_ := Aside0.mk ((by rw [hg]; exact (below_size (by repeat (first | (with_reducible first | exact HB.out | apply below_alloc | apply pw_below_drewN | apply below_drew1) | exact HB.out))) : w.heap.size ≤ gb709)); have n3_ := Aside0.mk ((by rw [hg]; exact (below_size (by repeat (first | (with_reducible first | exact HB.out | apply below_alloc | apply pw_below_drewN | apply below_drew1) | exact HB.out))) : w.heap.size ≤ gb709)); clear HB; have HB := n0_; have BK709 := n1_; have GW709 := n2_; have GE709 := n3_; clear n0_ n1_ n2_ n3_; clear hb hbox hg))
  go_ret
  exact ⟨by first | rfl | (simp [errW_none, errW_some] <;> rfl) | (simp [*, errW_none, errW_some] <;> rfl), by repeat (first | (with_reducible first | exact HB.out | apply below_alloc | apply pw_below_drewN | apply below_drew1 | refine below_set ?_ GE709.out) | exact HB.out)⟩
 ·rw [if_neg c5] at H
  have c5b0 : decide (1048576 < (a0.size : Int)) = false := decide_eq_false c5
  have c5b1 : decide (1048576 < a0.size) = false := decide_eq_false (by omega)
  clear c5
  replace H := Option.bind_eq_some_iff.mp H
  obtain ⟨t710, A70, H⟩ := H
  replace H : (if t710 < 0 then (some true) else ((laws_szStringS.f k l3 t710).bind fun t711 => (if t711 < 0 then (some true) else ((laws_toSlot.f a2_0 a2_1 a2_2 a2_3 a2_4).bind fun bt712 => ((laws_toStringS.f k l3).bind fun t717 => ((spec_CheckSlot.f k a0 a1 bt712.1 bt712.2.1 bt712.2.2.1 bt712.2.2.2.1 bt712.2.2.2.2 t717).bind fun bt720 => ((laws_toStringS.f k l3).bind fun t722 => ((laws_toSlot.f a2_0 a2_1 a2_2 a2_3 a2_4).bind fun bt725 => ((impl_CheckSlot.f k a0 a1 bt725.1 bt725.2.1 bt725.2.2.1 bt725.2.2.2.1 bt725.2.2.2.2 t722).bind fun bt730 => (if (bt730.1 != bt720.1) = true then (laws_FnExactCheckSlot.j0 k l3 t722 true) else (laws_FnExactCheckSlot.j0 k l3 t722 (bt730.2 != bt720.2)))))))))))) = some r := H
  have A7 := Aside0.mk A70
  clear A70
  by_cases c8 : t710 < 0
  ·rw [if_pos c8] at H
   have c8b0 : decide (t710 < 0) = true := decide_eq_true c8
   clear c8
   obtain rfl := Option.some.inj H
   go_enter Try.func9, Try.ntmps9
   go_wp2_with (first | ((with_reducible refine gate_dst (N := 6) rfl ?_); refine box_event ?hg (N := 6) ?hd (cs := #[.string a2_0, .string a2_1, .string a2_2, .string a2_3, .bool a2_4]) (t := 64) ?hr ?_; (case hd => rfl); (case hg => rfl); (case hr => first | (go_simp; done) | (go_simp; rfl)); intro gb709 hg w9 hbox hb; have n0_ := Aside0.mk (below_step (by repeat (first | (with_reducible first | exact HB.out | apply below_alloc | apply pw_below_drewN | apply below_drew1) | exact HB.out)) hb); have n1_ := Aside0.mk (hbox); have n2_ := Aside0.mk ((by rw [hg]; exact (below_size (by repeat (first | (with_reducible first | exact HB.out | apply below_alloc | apply pw_below_drewN | apply below_drew1) | exact HB.out))) : w.heap.size ≤ gb709)); have n3_ := Aside0.mk ((by rw [hg]; exact (below_size (by repeat (first | (with_reducible first | exact HB.out | apply below_alloc | apply pw_below_drewN | apply below_drew1) | exact HB.out))) : w.heap.size ≤ gb709)); clear HB; have HB := n0_; have BK709 := n1_; have GW709 := n2_; have GE709 := n3_; clear n0_ n1_ n2_ n3_; clear hb hbox hg; have hcz10_0 : w9.cell? ⟨gb709, 0, none⟩ = some (.string a2_0) := (blk_cell BK709.out 0).trans rfl; have hcz10_1 : w9.cell? ⟨gb709, 1, none⟩ = some (.string a2_1) := (blk_cell BK709.out 1).trans rfl; have hcz10_2 : w9.cell? ⟨gb709, 2, none⟩ = some (.string a2_2) := (blk_cell BK709.out 2).trans rfl; have hcz10_3 : w9.cell? ⟨gb709, 3, none⟩ = some (.string a2_3) := (blk_cell BK709.out 3).trans rfl; have hcz10_4 : w9.cell? ⟨gb709, 4, none⟩ = some (.bool a2_4) := (blk_cell BK709.out 4).trans rfl; have hfz10_0 := blk_frozen BK709.out 0; have hfz10_1 := blk_frozen BK709.out 1; have hfz10_2 := blk_frozen BK709.out 2; have hfz10_3 := blk_frozen BK709.out 3; have hfz10_4 := blk_frozen BK709.out 4) | ((with_reducible refine gate_callee (f := 46) rfl ?_); refine goesL_ (some 20) rfl rfl Try.func46 (by kernel_rfl) rfl #[.agg #[.string a2_0, .string a2_1, .string a2_2, .string a2_3, .bool a2_4], .int .i64 1048576] rfl (by (try simp only [List.map_toArray, List.map_cons, List.map_nil]); first | done | rfl | (simp only [List.length_drop, List.length_take]; rfl)) ?_; (with_reducible refine (laws_szSlot.calls a2_0 a2_1 a2_2 a2_3 a2_4 1048576 t710 _ A7.out).mono ?_); rintro e w11 ⟨rfl, hb⟩; refine ⟨_, rfl, ?_⟩; have n0_ := Aside0.mk (blk_below (g := gb709) (o := .cells #[.string a2_0, .string a2_1, .string a2_2, .string a2_3, .bool a2_4] 64 (0, 0)) (by (with_reducible repeat (first | refine blk_drewN ?_ _ | refine blk_drew ?_ | refine blk_alloc ?_ _)); exact BK709.out) hb); have n1_ := Aside0.mk (below_step (by repeat (first | (with_reducible first | exact HB.out | apply below_alloc | apply pw_below_drewN | apply below_drew1 | refine below_set ?_ GE709.out) | exact HB.out)) hb); clear BK709; clear HB; have BK709 := n0_; have HB := n1_; clear n0_ n1_; (try clear hb); (try clear hb2); (try clear hk); (try clear hi)))
   go_ret
   exact ⟨by first | rfl | (simp [errW_none, errW_some] <;> rfl) | (simp [*, errW_none, errW_some] <;> rfl), by repeat (first | (with_reducible first | exact HB.out | apply below_alloc | apply pw_below_drewN | apply below_drew1 | refine below_set ?_ GE709.out) | exact HB.out)⟩
  ·rw [if_neg c8] at H
   have c8b0 : decide (t710 < 0) = false := decide_eq_false c8
   clear c8
   replace H := Option.bind_eq_some_iff.mp H
   obtain ⟨t711, A120, H⟩ := H
   replace H : (if t711 < 0 then (some true) else ((laws_toSlot.f a2_0 a2_1 a2_2 a2_3 a2_4).bind fun bt712 => ((laws_toStringS.f k l3).bind fun t717 => ((spec_CheckSlot.f k a0 a1 bt712.1 bt712.2.1 bt712.2.2.1 bt712.2.2.2.1 bt712.2.2.2.2 t717).bind fun bt720 => ((laws_toStringS.f k l3).bind fun t722 => ((laws_toSlot.f a2_0 a2_1 a2_2 a2_3 a2_4).bind fun bt725 => ((impl_CheckSlot.f k a0 a1 bt725.1 bt725.2.1 bt725.2.2.1 bt725.2.2.2.1 bt725.2.2.2.2 t722).bind fun bt730 => (if (bt730.1 != bt720.1) = true then (laws_FnExactCheckSlot.j0 k l3 t722 true) else (laws_FnExactCheckSlot.j0 k l3 t722 (bt730.2 != bt720.2)))))))))) = some r := H
   have A12 := Aside0.mk A120
   clear A120
   by_cases c13 : t711 < 0
   ·rw [if_pos c13] at H
    have c13b0 : decide (t711 < 0) = true := decide_eq_true c13
    clear c13
    obtain rfl := Option.some.inj H
    go_enter Try.func9, Try.ntmps9
    go_wp2_with (first | ((with_reducible refine gate_dst (N := 6) rfl ?_); refine box_event ?hg (N := 6) ?hd (cs := #[.string a2_0, .string a2_1, .string a2_2, .string a2_3, .bool a2_4]) (t := 64) ?hr ?_; (case hd => rfl); (case hg => rfl); (case hr => first | (go_simp; done) | (go_simp; rfl)); intro gb709 hg w14 hbox hb; have n0_ := Aside0.mk (below_step (by repeat (first | (with_reducible first | exact HB.out | apply below_alloc | apply pw_below_drewN | apply below_drew1) | exact HB.out)) hb); have n1_ := Aside0.mk (hbox); have n2_ := Aside0.mk ((by rw [hg]; exact (below_size (by repeat (first | (with_reducible first | exact HB.out | apply below_alloc | apply pw_below_drewN | apply below_drew1) | exact HB.out))) : w.heap.size ≤ gb709)); have n3_ := Aside0.mk ((by rw [hg]; exact (below_size (by repeat (first | (with_reducible first | exact HB.out | apply below_alloc | apply pw_below_drewN | apply below_drew1) | exact HB.out))) : w.heap.size ≤ gb709)); clear HB; have HB := n0_; have BK709 := n1_; have GW709 := n2_; have GE709 := n3_; clear n0_ n1_ n2_ n3_; clear hb hbox hg; have hcz15_0 : w14.cell? ⟨gb709, 0, none⟩ = some (.string a2_0) := (blk_cell BK709.out 0).trans rfl; have hcz15_1 : w14.cell? ⟨gb709, 1, none⟩ = some (.string a2_1) := (blk_cell BK709.out 1).trans rfl; have hcz15_2 : w14.cell? ⟨gb709, 2, none⟩ = some (.string a2_2) := (blk_cell BK709.out 2).trans rfl; have hcz15_3 : w14.cell? ⟨gb709, 3, none⟩ = some (.string a2_3) := (blk_cell BK709.out 3).trans rfl; have hcz15_4 : w14.cell? ⟨gb709, 4, none⟩ = some (.bool a2_4) := (blk_cell BK709.out 4).trans rfl; have hfz15_0 := blk_frozen BK709.out 0; have hfz15_1 := blk_frozen BK709.out 1; have hfz15_2 := blk_frozen BK709.out 2; have hfz15_3 := blk_frozen BK709.out 3; have hfz15_4 := blk_frozen BK709.out 4) | ((with_reducible refine gate_callee (f := 46) rfl ?_); refine goesL_ (some 20) rfl rfl Try.func46 (by kernel_rfl) rfl #[.agg #[.string a2_0, .string a2_1, .string a2_2, .string a2_3, .bool a2_4], .int .i64 1048576] rfl (by (try simp only [List.map_toArray, List.map_cons, List.map_nil]); first | done | rfl | (simp only [List.length_drop, List.length_take]; rfl)) ?_; (with_reducible refine (laws_szSlot.calls a2_0 a2_1 a2_2 a2_3 a2_4 1048576 t710 _ A7.out).mono ?_); rintro e w16 ⟨rfl, hb⟩; refine ⟨_, rfl, ?_⟩; have n0_ := Aside0.mk (blk_below (g := gb709) (o := .cells #[.string a2_0, .string a2_1, .string a2_2, .string a2_3, .bool a2_4] 64 (0, 0)) (by (with_reducible repeat (first | refine blk_drewN ?_ _ | refine blk_drew ?_ | refine blk_alloc ?_ _)); exact BK709.out) hb); have n1_ := Aside0.mk (below_step (by repeat (first | (with_reducible first | exact HB.out | apply below_alloc | apply pw_below_drewN | apply below_drew1 | refine below_set ?_ GE709.out) | exact HB.out)) hb); clear BK709; clear HB; have BK709 := n0_; have HB := n1_; clear n0_ n1_; (try clear hb); (try clear hb2); (try clear hk); (try clear hi)) | ((with_reducible refine gate_callee (f := 30) rfl ?_); refine goesL_ (some 25) rfl rfl Try.func30 (by kernel_rfl) rfl #[.slice A3 l3.length c3, .int .i64 t710] rfl (by (try simp only [List.map_toArray, List.map_cons, List.map_nil]); first | done | rfl | (simp only [List.length_drop, List.length_take]; rfl)) ?_; (with_reducible refine (laws_szStringS.calls k _ _ l3 t710 t711 _ ?side1 ?side2 A12.out).mono ?_); (case side1 => repeat (first | exact (Kd.C_below HR3.out HB.out) | (with_reducible refine Kd.C_alloc ?_ _) | (with_reducible refine Kd.C_drewN ?_ _) | (with_reducible refine Kd.C_drew ?_))); (case side2 => exact HC3.out); rintro e w' ⟨rfl, ⟨nd, rfl⟩⟩; refine ⟨_, rfl, ?_⟩))
    go_ret
    exact ⟨by first | rfl | (simp [errW_none, errW_some] <;> rfl) | (simp [*, errW_none, errW_some] <;> rfl), by repeat (first | (with_reducible first | exact HB.out | apply below_alloc | apply pw_below_drewN | apply below_drew1 | refine below_set ?_ GE709.out) | exact HB.out)⟩
   ·rw [if_neg c13] at H
    have c13b0 : decide (t711 < 0) = false := decide_eq_false c13
    clear c13
    replace H := Option.bind_eq_some_iff.mp H
    obtain ⟨⟨t712, t713, t714, t715, t716⟩, A170, H⟩ := H
    replace H : ((laws_toStringS.f k l3).bind fun t717 => ((spec_CheckSlot.f k a0 a1 t712 t713 t714 t715 t716 t717).bind fun bt720 => ((laws_toStringS.f k l3).bind fun t722 => ((laws_toSlot.f a2_0 a2_1 a2_2 a2_3 a2_4).bind fun bt725 => ((impl_CheckSlot.f k a0 a1 bt725.1 bt725.2.1 bt725.2.2.1 bt725.2.2.2.1 bt725.2.2.2.2 t722).bind fun bt730 => (if (bt730.1 != bt720.1) = true then (laws_FnExactCheckSlot.j0 k l3 t722 true) else (laws_FnExactCheckSlot.j0 k l3 t722 (bt730.2 != bt720.2)))))))) = some r := H
    have A17 := Aside0.mk A170
    clear A170
    replace H := Option.bind_eq_some_iff.mp H
    obtain ⟨t717, A180, H⟩ := H
    replace H : ((spec_CheckSlot.f k a0 a1 t712 t713 t714 t715 t716 t717).bind fun bt720 => ((laws_toStringS.f k l3).bind fun t722 => ((laws_toSlot.f a2_0 a2_1 a2_2 a2_3 a2_4).bind fun bt725 => ((impl_CheckSlot.f k a0 a1 bt725.1 bt725.2.1 bt725.2.2.1 bt725.2.2.2.1 bt725.2.2.2.2 t722).bind fun bt730 => (if (bt730.1 != bt720.1) = true then (laws_FnExactCheckSlot.j0 k l3 t722 true) else (laws_FnExactCheckSlot.j0 k l3 t722 (bt730.2 != bt720.2))))))) = some r := H
    have A18 := Aside0.mk A180
    clear A180
    replace H := Option.bind_eq_some_iff.mp H
    obtain ⟨⟨t720, t721⟩, A190, H⟩ := H
    replace H : ((laws_toStringS.f k l3).bind fun t722 => ((laws_toSlot.f a2_0 a2_1 a2_2 a2_3 a2_4).bind fun bt725 => ((impl_CheckSlot.f k a0 a1 bt725.1 bt725.2.1 bt725.2.2.1 bt725.2.2.2.1 bt725.2.2.2.2 t722).bind fun bt730 => (if (bt730.1 != t720) = true then (laws_FnExactCheckSlot.j0 k l3 t722 true) else (laws_FnExactCheckSlot.j0 k l3 t722 (bt730.2 != t721)))))) = some r := H
    have A19 := Aside0.mk A190
    clear A190
    replace H := Option.bind_eq_some_iff.mp H
    obtain ⟨t722, A200, H⟩ := H
    replace H : ((laws_toSlot.f a2_0 a2_1 a2_2 a2_3 a2_4).bind fun bt725 => ((impl_CheckSlot.f k a0 a1 bt725.1 bt725.2.1 bt725.2.2.1 bt725.2.2.2.1 bt725.2.2.2.2 t722).bind fun bt730 => (if (bt730.1 != t720) = true then (laws_FnExactCheckSlot.j0 k l3 t722 true) else (laws_FnExactCheckSlot.j0 k l3 t722 (bt730.2 != t721))))) = some r := H
    have A20 := Aside0.mk A200
    clear A200
    replace H := Option.bind_eq_some_iff.mp H
    obtain ⟨⟨t725, t726, t727, t728, t729⟩, A210, H⟩ := H
    replace H : ((impl_CheckSlot.f k a0 a1 t725 t726 t727 t728 t729 t722).bind fun bt730 => (if (bt730.1 != t720) = true then (laws_FnExactCheckSlot.j0 k l3 t722 true) else (laws_FnExactCheckSlot.j0 k l3 t722 (bt730.2 != t721)))) = some r := H
    have A21 := Aside0.mk A210
    clear A210
    replace H := Option.bind_eq_some_iff.mp H
    obtain ⟨⟨t730, t731⟩, A220, H⟩ := H
    replace H : (if (t730 != t720) = true then (laws_FnExactCheckSlot.j0 k l3 t722 true) else (laws_FnExactCheckSlot.j0 k l3 t722 (t731 != t721))) = some r := H
    have A22 := Aside0.mk A220
    clear A220
    have HC23 := Aside0.mk H
    clear H
    go_enter Try.func9, Try.ntmps9
    go_upto_region 13 with (first | ((with_reducible refine gate_dst (N := 6) rfl ?_); refine box_event ?hg (N := 6) ?hd (cs := #[.string a2_0, .string a2_1, .string a2_2, .string a2_3, .bool a2_4]) (t := 64) ?hr ?_; (case hd => rfl); (case hg => rfl); (case hr => first | (go_simp; done) | (go_simp; rfl)); intro gb709 hg w24 hbox hb; have n0_ := Aside0.mk (below_step (by repeat (first | (with_reducible first | exact HB.out | apply below_alloc | apply pw_below_drewN | apply below_drew1) | exact HB.out)) hb); have n1_ := Aside0.mk (hbox); have n2_ := Aside0.mk ((by rw [hg]; exact (below_size (by repeat (first | (with_reducible first | exact HB.out | apply below_alloc | apply pw_below_drewN | apply below_drew1) | exact HB.out))) : w.heap.size ≤ gb709)); have n3_ := Aside0.mk ((by rw [hg]; exact (below_size (by repeat (first | (with_reducible first | exact HB.out | apply below_alloc | apply pw_below_drewN | apply below_drew1) | exact HB.out))) : w.heap.size ≤ gb709)); clear HB; have HB := n0_; have BK709 := n1_; have GW709 := n2_; have GE709 := n3_; clear n0_ n1_ n2_ n3_; clear hb hbox hg; have hcz25_0 : w24.cell? ⟨gb709, 0, none⟩ = some (.string a2_0) := (blk_cell BK709.out 0).trans rfl; have hcz25_1 : w24.cell? ⟨gb709, 1, none⟩ = some (.string a2_1) := (blk_cell BK709.out 1).trans rfl; have hcz25_2 : w24.cell? ⟨gb709, 2, none⟩ = some (.string a2_2) := (blk_cell BK709.out 2).trans rfl; have hcz25_3 : w24.cell? ⟨gb709, 3, none⟩ = some (.string a2_3) := (blk_cell BK709.out 3).trans rfl; have hcz25_4 : w24.cell? ⟨gb709, 4, none⟩ = some (.bool a2_4) := (blk_cell BK709.out 4).trans rfl; have hfz25_0 := blk_frozen BK709.out 0; have hfz25_1 := blk_frozen BK709.out 1; have hfz25_2 := blk_frozen BK709.out 2; have hfz25_3 := blk_frozen BK709.out 3; have hfz25_4 := blk_frozen BK709.out 4) | ((with_reducible refine gate_callee (f := 46) rfl ?_); refine goesL_ (some 20) rfl rfl Try.func46 (by kernel_rfl) rfl #[.agg #[.string a2_0, .string a2_1, .string a2_2, .string a2_3, .bool a2_4], .int .i64 1048576] rfl (by (try simp only [List.map_toArray, List.map_cons, List.map_nil]); first | done | rfl | (simp only [List.length_drop, List.length_take]; rfl)) ?_; (with_reducible refine (laws_szSlot.calls a2_0 a2_1 a2_2 a2_3 a2_4 1048576 t710 _ A7.out).mono ?_); rintro e w26 ⟨rfl, hb⟩; refine ⟨_, rfl, ?_⟩; have n0_ := Aside0.mk (blk_below (g := gb709) (o := .cells #[.string a2_0, .string a2_1, .string a2_2, .string a2_3, .bool a2_4] 64 (0, 0)) (by (with_reducible repeat (first | refine blk_drewN ?_ _ | refine blk_drew ?_ | refine blk_alloc ?_ _)); exact BK709.out) hb); have n1_ := Aside0.mk (below_step (by repeat (first | (with_reducible first | exact HB.out | apply below_alloc | apply pw_below_drewN | apply below_drew1 | refine below_set ?_ GE709.out) | exact HB.out)) hb); clear BK709; clear HB; have BK709 := n0_; have HB := n1_; clear n0_ n1_; (try clear hb); (try clear hb2); (try clear hk); (try clear hi)) | ((with_reducible refine gate_callee (f := 30) rfl ?_); refine goesL_ (some 25) rfl rfl Try.func30 (by kernel_rfl) rfl #[.slice A3 l3.length c3, .int .i64 t710] rfl (by (try simp only [List.map_toArray, List.map_cons, List.map_nil]); first | done | rfl | (simp only [List.length_drop, List.length_take]; rfl)) ?_; (with_reducible refine (laws_szStringS.calls k _ _ l3 t710 t711 _ ?side1 ?side2 A12.out).mono ?_); (case side1 => repeat (first | exact (Kd.C_below HR3.out HB.out) | (with_reducible refine Kd.C_alloc ?_ _) | (with_reducible refine Kd.C_drewN ?_ _) | (with_reducible refine Kd.C_drew ?_))); (case side2 => exact HC3.out); rintro e w' ⟨rfl, ⟨nd, rfl⟩⟩; refine ⟨_, rfl, ?_⟩; have hcz27_0 : w26.cell? ⟨gb709, 0, none⟩ = some (.string a2_0) := (blk_cell BK709.out 0).trans rfl; have hcz27_1 : w26.cell? ⟨gb709, 1, none⟩ = some (.string a2_1) := (blk_cell BK709.out 1).trans rfl; have hcz27_2 : w26.cell? ⟨gb709, 2, none⟩ = some (.string a2_2) := (blk_cell BK709.out 2).trans rfl; have hcz27_3 : w26.cell? ⟨gb709, 3, none⟩ = some (.string a2_3) := (blk_cell BK709.out 3).trans rfl; have hcz27_4 : w26.cell? ⟨gb709, 4, none⟩ = some (.bool a2_4) := (blk_cell BK709.out 4).trans rfl; have hfz27_0 := blk_frozen BK709.out 0; have hfz27_1 := blk_frozen BK709.out 1; have hfz27_2 := blk_frozen BK709.out 2; have hfz27_3 := blk_frozen BK709.out 3; have hfz27_4 := blk_frozen BK709.out 4) | ((with_reducible refine gate_callee (f := 48) rfl ?_); refine goesL_ (some 32) rfl rfl Try.func48 (by kernel_rfl) rfl #[.agg #[.string a2_0, .string a2_1, .string a2_2, .string a2_3, .bool a2_4]] rfl (by (try simp only [List.map_toArray, List.map_cons, List.map_nil]); first | done | rfl | (simp only [List.length_drop, List.length_take]; rfl)) ?_; (with_reducible refine (laws_toSlot.calls a2_0 a2_1 a2_2 a2_3 a2_4 t712 t713 t714 t715 t716 _ A17.out).mono ?_); rintro e w28 ⟨rfl, hb⟩; refine ⟨_, rfl, ?_⟩; have n0_ := Aside0.mk (blk_below (g := gb709) (o := .cells #[.string a2_0, .string a2_1, .string a2_2, .string a2_3, .bool a2_4] 64 (0, 0)) (by (with_reducible repeat (first | refine blk_drewN ?_ _ | refine blk_drew ?_ | refine blk_alloc ?_ _)); exact BK709.out) hb); have n1_ := Aside0.mk (below_step (by repeat (first | (with_reducible first | exact HB.out | apply below_alloc | apply pw_below_drewN | apply below_drew1 | refine below_set ?_ GE709.out) | exact HB.out)) hb); clear BK709; clear HB; have BK709 := n0_; have HB := n1_; clear n0_ n1_; (try clear hb); (try clear hb2); (try clear hk); (try clear hi)) | ((with_reducible refine gate_callee (f := 32) rfl ?_); refine goesL_ (some 34) rfl rfl Try.func32 (by kernel_rfl) rfl #[.slice A3 l3.length c3] rfl (by (try simp only [List.map_toArray, List.map_cons, List.map_nil]); first | done | rfl | (simp only [List.length_drop, List.length_take]; rfl)) ?_; (with_reducible refine (laws_toStringS.calls k _ _ l3 t717 _ ?side1 ?side2 A18.out).mono ?_); (case side1 => repeat (first | exact (Kd.C_below HR3.out HB.out) | (with_reducible refine Kd.C_alloc ?_ _) | (with_reducible refine Kd.C_drewN ?_ _) | (with_reducible refine Kd.C_drew ?_))); (case side2 => exact HC3.out); rintro e w29 ⟨v718, rfl, ho0, hb⟩; refine ⟨_, rfl, ?_⟩; have n0_ := Aside0.mk (Kd.R_lower ho0 (below_size (by repeat (first | (with_reducible first | exact HB.out | apply below_alloc | apply pw_below_drewN | apply below_drew1 | refine below_set ?_ GE709.out) | exact HB.out)))); have n1_ := Aside0.mk (blk_below (g := gb709) (o := .cells #[.string a2_0, .string a2_1, .string a2_2, .string a2_3, .bool a2_4] 64 (0, 0)) (by (with_reducible repeat (first | refine blk_drewN ?_ _ | refine blk_drew ?_ | refine blk_alloc ?_ _)); exact BK709.out) hb); have n2_ := Aside0.mk (below_step (by repeat (first | (with_reducible first | exact HB.out | apply below_alloc | apply pw_below_drewN | apply below_drew1 | refine below_set ?_ GE709.out) | exact HB.out)) hb); clear BK709; clear HB; have HO719 := n0_; have BK709 := n1_; have HB := n2_; clear n0_ n1_ n2_; (try clear hb); (try clear hb2); (try clear hk); (try clear hi); (try clear ho0); obtain ⟨Ao30, co30, eo30⟩ := Kd.R_slice HO719.out; subst eo30) | ((with_reducible refine gate_callee (f := 47) rfl ?_); refine goesL_ (some 35) rfl rfl Try.func47 (by kernel_rfl) rfl #[.string a0, .int .i64 a1, .agg #[.string t712, .string t713, .string t714, .string t715, .bool t716], .slice Ao30 t717.length co30] rfl (by (try simp only [List.map_toArray, List.map_cons, List.map_nil]); first | done | rfl | (simp only [List.length_drop, List.length_take]; rfl)) ?_; (with_reducible refine (spec_CheckSlot.calls k a0 a1 t712 t713 t714 t715 t716 _ _ t717 t720 t721 _ ?side1 ?side2 A19.out).mono ?_); (case side1 => repeat (first | exact (Kd.R_reads' HO719.out).2.2 | (with_reducible refine Kd.C_alloc ?_ _) | (with_reducible refine Kd.C_drewN ?_ _) | (with_reducible refine Kd.C_drew ?_))); (case side2 => exact (Kd.R_reads' HO719.out).2.1); rintro e w31 ⟨rfl, hb⟩; refine ⟨_, rfl, ?_⟩; have n0_ := Aside0.mk (Kd.R_below (by (with_reducible repeat (first | apply Kd.R_alloc | apply Kd.R_drewN | apply Kd.R_drew)); exact HO719.out) hb); have n1_ := Aside0.mk (blk_below (g := gb709) (o := .cells #[.string a2_0, .string a2_1, .string a2_2, .string a2_3, .bool a2_4] 64 (0, 0)) (by (with_reducible repeat (first | refine blk_drewN ?_ _ | refine blk_drew ?_ | refine blk_alloc ?_ _)); exact BK709.out) hb); have n2_ := Aside0.mk (below_step (by repeat (first | (with_reducible first | exact HB.out | apply below_alloc | apply pw_below_drewN | apply below_drew1 | refine below_set ?_ GE709.out) | exact HB.out)) hb); clear HO719; clear BK709; clear HB; have HO719 := n0_; have BK709 := n1_; have HB := n2_; clear n0_ n1_ n2_; (try clear hb); (try clear hb2); (try clear hk); (try clear hi)) | ((with_reducible refine gate_callee (f := 32) rfl ?_); refine goesL_ (some 39) rfl rfl Try.func32 (by kernel_rfl) rfl #[.slice A3 l3.length c3] rfl (by (try simp only [List.map_toArray, List.map_cons, List.map_nil]); first | done | rfl | (simp only [List.length_drop, List.length_take]; rfl)) ?_; (with_reducible refine (laws_toStringS.calls k _ _ l3 t722 _ ?side1 ?side2 A20.out).mono ?_); (case side1 => repeat (first | exact (Kd.C_below HR3.out HB.out) | (with_reducible refine Kd.C_alloc ?_ _) | (with_reducible refine Kd.C_drewN ?_ _) | (with_reducible refine Kd.C_drew ?_))); (case side2 => exact HC3.out); rintro e w32 ⟨v723, rfl, ho0, hb⟩; refine ⟨_, rfl, ?_⟩; have n0_ := Aside0.mk (Kd.R_elder' (by (with_reducible repeat (first | apply Kd.R_alloc | apply Kd.R_drewN | apply Kd.R_drew)); exact HO719.out) (Kd.R_base ho0) hb); have n1_ := Aside0.mk (Kd.R_lower (Kd.R_new' ho0 (Kd.R_lt (by (with_reducible repeat (first | apply Kd.R_alloc | apply Kd.R_drewN | apply Kd.R_drew)); exact HO719.out))) (below_size (by repeat (first | (with_reducible first | exact HB.out | apply below_alloc | apply pw_below_drewN | apply below_drew1 | refine below_set ?_ GE709.out) | exact HB.out)))); have n2_ := Aside0.mk (blk_below (g := gb709) (o := .cells #[.string a2_0, .string a2_1, .string a2_2, .string a2_3, .bool a2_4] 64 (0, 0)) (by (with_reducible repeat (first | refine blk_drewN ?_ _ | refine blk_drew ?_ | refine blk_alloc ?_ _)); exact BK709.out) hb); have n3_ := Aside0.mk (below_step (by repeat (first | (with_reducible first | exact HB.out | apply below_alloc | apply pw_below_drewN | apply below_drew1 | refine below_set ?_ GE709.out) | exact HB.out)) hb); clear HO719; clear BK709; clear HB; have HO719 := n0_; have HO724 := n1_; have BK709 := n2_; have HB := n3_; clear n0_ n1_ n2_ n3_; (try clear hb); (try clear hb2); (try clear hk); (try clear hi); (try clear ho0); have hcz33_0 : w32.cell? ⟨gb709, 0, none⟩ = some (.string a2_0) := (blk_cell BK709.out 0).trans rfl; have hcz33_1 : w32.cell? ⟨gb709, 1, none⟩ = some (.string a2_1) := (blk_cell BK709.out 1).trans rfl; have hcz33_2 : w32.cell? ⟨gb709, 2, none⟩ = some (.string a2_2) := (blk_cell BK709.out 2).trans rfl; have hcz33_3 : w32.cell? ⟨gb709, 3, none⟩ = some (.string a2_3) := (blk_cell BK709.out 3).trans rfl; have hcz33_4 : w32.cell? ⟨gb709, 4, none⟩ = some (.bool a2_4) := (blk_cell BK709.out 4).trans rfl; have hfz33_0 := blk_frozen BK709.out 0; have hfz33_1 := blk_frozen BK709.out 1; have hfz33_2 := blk_frozen BK709.out 2; have hfz33_3 := blk_frozen BK709.out 3; have hfz33_4 := blk_frozen BK709.out 4) | ((with_reducible refine gate_callee (f := 48) rfl ?_); refine goesL_ (some 44) rfl rfl Try.func48 (by kernel_rfl) rfl #[.agg #[.string a2_0, .string a2_1, .string a2_2, .string a2_3, .bool a2_4]] rfl (by (try simp only [List.map_toArray, List.map_cons, List.map_nil]); first | done | rfl | (simp only [List.length_drop, List.length_take]; rfl)) ?_; (with_reducible refine (laws_toSlot.calls a2_0 a2_1 a2_2 a2_3 a2_4 t725 t726 t727 t728 t729 _ A21.out).mono ?_); rintro e w34 ⟨rfl, hb⟩; refine ⟨_, rfl, ?_⟩; have n0_ := Aside0.mk (Kd.R_below (by (with_reducible repeat (first | apply Kd.R_alloc | apply Kd.R_drewN | apply Kd.R_drew)); exact HO719.out) hb); have n1_ := Aside0.mk (Kd.R_below (by (with_reducible repeat (first | apply Kd.R_alloc | apply Kd.R_drewN | apply Kd.R_drew)); exact HO724.out) hb); have n2_ := Aside0.mk (blk_below (g := gb709) (o := .cells #[.string a2_0, .string a2_1, .string a2_2, .string a2_3, .bool a2_4] 64 (0, 0)) (by (with_reducible repeat (first | refine blk_drewN ?_ _ | refine blk_drew ?_ | refine blk_alloc ?_ _)); exact BK709.out) hb); have n3_ := Aside0.mk (below_step (by repeat (first | (with_reducible first | exact HB.out | apply below_alloc | apply pw_below_drewN | apply below_drew1 | refine below_set ?_ GE709.out) | exact HB.out)) hb); clear HO719; clear HO724; clear BK709; clear HB; have HO719 := n0_; have HO724 := n1_; have BK709 := n2_; have HB := n3_; clear n0_ n1_ n2_ n3_; (try clear hb); (try clear hb2); (try clear hk); (try clear hi); obtain ⟨Ao35, co35, eo35⟩ := Kd.R_slice HO724.out; subst eo35) | ((with_reducible refine gate_callee (f := 49) rfl ?_); refine goesL_ (some 46) rfl rfl Try.func49 (by kernel_rfl) rfl #[.string a0, .int .i64 a1, .agg #[.string t725, .string t726, .string t727, .string t728, .bool t729], .slice Ao35 t722.length co35] rfl (by (try simp only [List.map_toArray, List.map_cons, List.map_nil]); first | done | rfl | (simp only [List.length_drop, List.length_take]; rfl)) ?_; (with_reducible refine (impl_CheckSlot.calls k a0 a1 t725 t726 t727 t728 t729 _ _ t722 t730 t731 _ ?side1 ?side2 A22.out).mono ?_); (case side1 => repeat (first | exact (Kd.R_reads' HO724.out).2.2 | (with_reducible refine Kd.C_alloc ?_ _) | (with_reducible refine Kd.C_drewN ?_ _) | (with_reducible refine Kd.C_drew ?_))); (case side2 => exact (Kd.R_reads' HO724.out).2.1); rintro e w36 ⟨rfl, hb⟩; refine ⟨_, rfl, ?_⟩; have n0_ := Aside0.mk (Kd.R_below (by (with_reducible repeat (first | apply Kd.R_alloc | apply Kd.R_drewN | apply Kd.R_drew)); exact HO719.out) hb); have n1_ := Aside0.mk (Kd.R_below (by (with_reducible repeat (first | apply Kd.R_alloc | apply Kd.R_drewN | apply Kd.R_drew)); exact HO724.out) hb); have n2_ := Aside0.mk (blk_below (g := gb709) (o := .cells #[.string a2_0, .string a2_1, .string a2_2, .string a2_3, .bool a2_4] 64 (0, 0)) (by (with_reducible repeat (first | refine blk_drewN ?_ _ | refine blk_drew ?_ | refine blk_alloc ?_ _)); exact BK709.out) hb); have n3_ := Aside0.mk (below_step (by repeat (first | (with_reducible first | exact HB.out | apply below_alloc | apply pw_below_drewN | apply below_drew1 | refine below_set ?_ GE709.out) | exact HB.out)) hb); clear HO719; clear HO724; clear BK709; clear HB; have HO719 := n0_; have HO724 := n1_; have BK709 := n2_; have HB := n3_; clear n0_ n1_ n2_ n3_; (try clear hb); (try clear hb2); (try clear hk); (try clear hi)))
    (try simp only [Act.put, List.setIfInBounds_toArray, List.set_cons_zero, List.set_cons_succ])
    go_cut [56] (fun v56 wc => ∃ (kq : Nat) (x56_22 : Bool), v56 = .bool x56_22 ∧ Aside0 (laws_FnExactCheckSlot.j0 kq l3 t722 x56_22 = some r) ∧ Aside0 (kq ≤ k) ∧ Aside0 (Kd.R Kd.string 9 wc w.heap.size (fun _ => True) (.slice Ao35 t722.length co35) t722) ∧ Aside0 (wc.heap[gb709]? = some (.cells #[.string a2_0, .string a2_1, .string a2_2, .string a2_3, .bool a2_4] 64 (0, 0))) ∧ Aside0 (Below w.heap.size w wc))
    case first =>
     have H := HC23.out
     clear HC23
     by_cases c37 : (t730 != t720) = true
     ·rw [if_pos c37] at H
      have c37b0 : (t730 != t720) = true := c37
      (try (have c37b1 : decide (t730 = t720) = false := by simpa using c37))
      (try (have c37b2 : (t730 == t720) = false := by simpa using c37))
      (try (have c37b3 : ¬ (t730 = t720) := by simpa using c37))
      clear c37
      (first | rw [c37b0] | (simp only [i64_w, i32_w]; rw [c37b0]) | skip)
      have H' := Aside0.mk H
      clear H
      go_wp2
      go_meet
      case rel => exact ⟨_, (true), (by first | rfl | (simp; done) | (simp [*]; done) | (simp [bne]; done)), H', ⟨by first | omega | exact Nat.le_refl _⟩, ⟨by (with_reducible repeat (first | apply Kd.R_alloc | apply Kd.R_drewN | apply Kd.R_drew)); exact Kd.R_mono HO724.out (fun _ hk => trivial)⟩, ⟨by (with_reducible repeat (first | refine blk_drewN ?_ _ | refine blk_drew ?_ | refine blk_alloc ?_ _)); exact BK709.out⟩, ⟨by repeat (first | (with_reducible first | exact HB.out | apply below_alloc | apply pw_below_drewN | apply below_drew1 | refine below_set ?_ GE709.out) | exact HB.out)⟩⟩
     ·rw [if_neg c37] at H
      have c37b0 : (t730 != t720) = false := by simpa using c37
      (try (have c37b1 : decide (t730 = t720) = true := by simpa using c37))
      (try (have c37b2 : (t730 == t720) = true := by simpa using c37))
      clear c37
      (first | rw [c37b0] | (simp only [i64_w, i32_w]; rw [c37b0]) | skip)
      have H' := Aside0.mk H
      clear H
      go_wp2
      go_meet
      case rel => exact ⟨_, ((t731 != t721)), (by first | rfl | (simp; done) | (simp [*]; done) | (simp [bne]; done)), H', ⟨by first | omega | exact Nat.le_refl _⟩, ⟨by (with_reducible repeat (first | apply Kd.R_alloc | apply Kd.R_drewN | apply Kd.R_drew)); exact Kd.R_mono HO724.out (fun _ hk => trivial)⟩, ⟨by (with_reducible repeat (first | refine blk_drewN ?_ _ | refine blk_drew ?_ | refine blk_alloc ?_ _)); exact BK709.out⟩, ⟨by repeat (first | (with_reducible first | exact HB.out | apply below_alloc | apply pw_below_drewN | apply below_drew1 | refine below_set ?_ GE709.out) | exact HB.out)⟩⟩
    case rest =>
     clear HC23
     try clear c1
     try clear p2
     try clear c3
     try clear c4
     try clear c5
     try clear c5b0
     try clear c5b1
     try clear c8
     try clear c8b0
     try clear c9
     try clear c13
     try clear c13b0
     try clear c30
     try clear c32
     try clear c37
     try clear c37b0
     try clear c37b1
     try clear c37b2
     try clear hcz10_0
     try clear hcz10_1
     try clear hcz10_2
     try clear hcz10_3
     try clear hcz10_4
     try clear hcz15_0
     try clear hcz15_1
     try clear hcz15_2
     try clear hcz15_3
     try clear hcz15_4
     try clear hcz25_0
     try clear hcz25_1
     try clear hcz25_2
     try clear hcz25_3
     try clear hcz25_4
     try clear hcz27_0
     try clear hcz27_1
     try clear hcz27_2
     try clear hcz27_3
     try clear hcz27_4
     try clear hcz33_0
     try clear hcz33_1
     try clear hcz33_2
     try clear hcz33_3
     try clear hcz33_4
     try clear hfz10_0
     try clear hfz10_1
     try clear hfz10_2
     try clear hfz10_3
     try clear hfz10_4
     try clear hfz15_0
     try clear hfz15_1
     try clear hfz15_2
     try clear hfz15_3
     try clear hfz15_4
     try clear hfz25_0
     try clear hfz25_1
     try clear hfz25_2
     try clear hfz25_3
     try clear hfz25_4
     try clear hfz27_0
     try clear hfz27_1
     try clear hfz27_2
     try clear hfz27_3
     try clear hfz27_4
     try clear hfz33_0
     try clear hfz33_1
     try clear hfz33_2
     try clear hfz33_3
     try clear hfz33_4
     obtain ⟨kq, x56_22, rfl, HA, HJ22, HO_12, BK709, HB⟩ := hcut
     cases kq with
     | zero => exact absurd HA.out (by simp [laws_FnExactCheckSlot.j0])
     | succ kj22 =>
      have H := HA.out
      clear HA
      simp only [laws_FnExactCheckSlot.j0] at H
      by_cases c38 : x56_22 = true
      ·subst c38
       have H1 : (some false) = some r := by rw [if_pos rfl] at H; exact H
       clear H
       have H := H1
       clear H1
       obtain rfl := Option.some.inj H
       go_wp2
       go_ret
       exact ⟨by first | rfl | (simp [errW_none, errW_some] <;> rfl) | (simp [*, errW_none, errW_some] <;> rfl), by repeat (first | (with_reducible first | exact HB.out | apply below_alloc | apply pw_below_drewN | apply below_drew1 | refine below_set ?_ GE709.out) | exact HB.out)⟩
      ·replace c38 := Bool.eq_false_iff.mpr c38
       subst c38
       have H1 : ((laws_toStringS.f kj22 l3).bind fun t732 => ((laws_eqStringS.f kj22 t722 t732).bind fun t735 => (if t735 = true then (some true) else (some false)))) = some r := by rw [if_neg (show ¬ (false = true) by decide)] at H; exact H
       clear H
       have H := H1
       clear H1
       replace H := Option.bind_eq_some_iff.mp H
       obtain ⟨t732, A390, H⟩ := H
       replace H : ((laws_eqStringS.f kj22 t722 t732).bind fun t735 => (if t735 = true then (some true) else (some false))) = some r := H
       have A39 := Aside0.mk A390
       clear A390
       replace H := Option.bind_eq_some_iff.mp H
       obtain ⟨t735, A400, H⟩ := H
       replace H : (if t735 = true then (some true) else (some false)) = some r := H
       have A40 := Aside0.mk A400
       clear A400
       by_cases c41 : t735 = true
       ·subst c41
        have H1 : (some true) = some r := by rw [if_pos rfl] at H; exact H
        clear H
        have H := H1
        clear H1
        obtain rfl := Option.some.inj H
        go_wp2_with (first | ((with_reducible refine gate_callee (f := 32) rfl ?_); refine goesL_ (some 59) rfl rfl Try.func32 (by kernel_rfl) rfl #[.slice A3 l3.length c3] rfl (by (try simp only [List.map_toArray, List.map_cons, List.map_nil]); first | done | rfl | (simp only [List.length_drop, List.length_take]; rfl)) ?_; (with_reducible refine (laws_toStringS.calls kj22 _ _ l3 t732 _ ?side1 ?side2 A39.out).mono ?_); (case side1 => repeat (first | exact (Kd.C_below HR3.out HB.out) | (with_reducible refine Kd.C_alloc ?_ _) | (with_reducible refine Kd.C_drewN ?_ _) | (with_reducible refine Kd.C_drew ?_))); (case side2 => exact HC3.out); rintro e w42 ⟨v733, rfl, ho0, hb⟩; refine ⟨_, rfl, ?_⟩; have n0_ := Aside0.mk (Kd.R_elder' (by (with_reducible repeat (first | apply Kd.R_alloc | apply Kd.R_drewN | apply Kd.R_drew)); exact HO_12.out) (Kd.R_base ho0) hb); have n1_ := Aside0.mk (Kd.R_lower (Kd.R_new' ho0 (Kd.R_lt (by (with_reducible repeat (first | apply Kd.R_alloc | apply Kd.R_drewN | apply Kd.R_drew)); exact HO_12.out))) (below_size (by repeat (first | (with_reducible first | exact HB.out | apply below_alloc | apply pw_below_drewN | apply below_drew1 | refine below_set ?_ GE709.out) | exact HB.out)))); have n2_ := Aside0.mk (blk_below (g := gb709) (o := .cells #[.string a2_0, .string a2_1, .string a2_2, .string a2_3, .bool a2_4] 64 (0, 0)) (by (with_reducible repeat (first | refine blk_drewN ?_ _ | refine blk_drew ?_ | refine blk_alloc ?_ _)); exact BK709.out) hb); have n3_ := Aside0.mk (below_step (by repeat (first | (with_reducible first | exact HB.out | apply below_alloc | apply pw_below_drewN | apply below_drew1 | refine below_set ?_ GE709.out) | exact HB.out)) hb); clear HO_12; clear BK709; clear HB; have HO_12 := n0_; have HO734 := n1_; have BK709 := n2_; have HB := n3_; clear n0_ n1_ n2_ n3_; (try clear hb); (try clear hb2); (try clear hk); (try clear hi); (try clear ho0); obtain ⟨Ao43, co43, eo43⟩ := Kd.R_slice HO734.out; subst eo43) | ((with_reducible refine gate_callee (f := 17) rfl ?_); refine goesL_ (some 60) rfl rfl Try.func17 (by kernel_rfl) rfl #[.slice Ao35 t722.length co35, .slice Ao43 t732.length co43] rfl (by (try simp only [List.map_toArray, List.map_cons, List.map_nil]); first | done | rfl | (simp only [List.length_drop, List.length_take]; rfl)) ?_; (with_reducible refine (laws_eqStringS.calls kj22 _ _ t722 _ _ t732 true _ ?side1 ?side2 ?side3 ?side4 A40.out).mono ?_); (case side1 => repeat (first | exact (Kd.R_reads' HO_12.out).2.2 | (with_reducible refine Kd.C_alloc ?_ _) | (with_reducible refine Kd.C_drewN ?_ _) | (with_reducible refine Kd.C_drew ?_))); (case side2 => exact (Kd.R_reads' HO_12.out).2.1); (case side3 => repeat (first | exact (Kd.R_reads' HO734.out).2.2 | (with_reducible refine Kd.C_alloc ?_ _) | (with_reducible refine Kd.C_drewN ?_ _) | (with_reducible refine Kd.C_drew ?_))); (case side4 => exact (Kd.R_reads' HO734.out).2.1); rintro e w' ⟨rfl, ⟨nd, rfl⟩⟩; refine ⟨_, rfl, ?_⟩))
        go_ret
        exact ⟨by first | rfl | (simp [errW_none, errW_some] <;> rfl) | (simp [*, errW_none, errW_some] <;> rfl), by repeat (first | (with_reducible first | exact HB.out | apply below_alloc | apply pw_below_drewN | apply below_drew1 | refine below_set ?_ GE709.out) | exact HB.out)⟩
       ·replace c41 := Bool.eq_false_iff.mpr c41
        subst c41
        have H1 : (some false) = some r := by rw [if_neg (show ¬ (false = true) by decide)] at H; exact H
        clear H
        have H := H1
        clear H1
        obtain rfl := Option.some.inj H
        go_wp2_with (first | ((with_reducible refine gate_callee (f := 32) rfl ?_); refine goesL_ (some 59) rfl rfl Try.func32 (by kernel_rfl) rfl #[.slice A3 l3.length c3] rfl (by (try simp only [List.map_toArray, List.map_cons, List.map_nil]); first | done | rfl | (simp only [List.length_drop, List.length_take]; rfl)) ?_; (with_reducible refine (laws_toStringS.calls kj22 _ _ l3 t732 _ ?side1 ?side2 A39.out).mono ?_); (case side1 => repeat (first | exact (Kd.C_below HR3.out HB.out) | (with_reducible refine Kd.C_alloc ?_ _) | (with_reducible refine Kd.C_drewN ?_ _) | (with_reducible refine Kd.C_drew ?_))); (case side2 => exact HC3.out); rintro e w44 ⟨v733, rfl, ho0, hb⟩; refine ⟨_, rfl, ?_⟩; have n0_ := Aside0.mk (Kd.R_elder' (by (with_reducible repeat (first | apply Kd.R_alloc | apply Kd.R_drewN | apply Kd.R_drew)); exact HO_12.out) (Kd.R_base ho0) hb); have n1_ := Aside0.mk (Kd.R_lower (Kd.R_new' ho0 (Kd.R_lt (by (with_reducible repeat (first | apply Kd.R_alloc | apply Kd.R_drewN | apply Kd.R_drew)); exact HO_12.out))) (below_size (by repeat (first | (with_reducible first | exact HB.out | apply below_alloc | apply pw_below_drewN | apply below_drew1 | refine below_set ?_ GE709.out) | exact HB.out)))); have n2_ := Aside0.mk (blk_below (g := gb709) (o := .cells #[.string a2_0, .string a2_1, .string a2_2, .string a2_3, .bool a2_4] 64 (0, 0)) (by (with_reducible repeat (first | refine blk_drewN ?_ _ | refine blk_drew ?_ | refine blk_alloc ?_ _)); exact BK709.out) hb); have n3_ := Aside0.mk (below_step (by repeat (first | (with_reducible first | exact HB.out | apply below_alloc | apply pw_below_drewN | apply below_drew1 | refine below_set ?_ GE709.out) | exact HB.out)) hb); clear HO_12; clear BK709; clear HB; have HO_12 := n0_; have HO734 := n1_; have BK709 := n2_; have HB := n3_; clear n0_ n1_ n2_ n3_; (try clear hb); (try clear hb2); (try clear hk); (try clear hi); (try clear ho0); obtain ⟨Ao45, co45, eo45⟩ := Kd.R_slice HO734.out; subst eo45) | ((with_reducible refine gate_callee (f := 17) rfl ?_); refine goesL_ (some 60) rfl rfl Try.func17 (by kernel_rfl) rfl #[.slice Ao35 t722.length co35, .slice Ao45 t732.length co45] rfl (by (try simp only [List.map_toArray, List.map_cons, List.map_nil]); first | done | rfl | (simp only [List.length_drop, List.length_take]; rfl)) ?_; (with_reducible refine (laws_eqStringS.calls kj22 _ _ t722 _ _ t732 false _ ?side1 ?side2 ?side3 ?side4 A40.out).mono ?_); (case side1 => repeat (first | exact (Kd.R_reads' HO_12.out).2.2 | (with_reducible refine Kd.C_alloc ?_ _) | (with_reducible refine Kd.C_drewN ?_ _) | (with_reducible refine Kd.C_drew ?_))); (case side2 => exact (Kd.R_reads' HO_12.out).2.1); (case side3 => repeat (first | exact (Kd.R_reads' HO734.out).2.2 | (with_reducible refine Kd.C_alloc ?_ _) | (with_reducible refine Kd.C_drewN ?_ _) | (with_reducible refine Kd.C_drew ?_))); (case side4 => exact (Kd.R_reads' HO734.out).2.1); rintro e w' ⟨rfl, ⟨nd, rfl⟩⟩; refine ⟨_, rfl, ?_⟩))
        go_ret
        exact ⟨by first | rfl | (simp [errW_none, errW_some] <;> rfl) | (simp [*, errW_none, errW_some] <;> rfl), by repeat (first | (with_reducible first | exact HB.out | apply below_alloc | apply pw_below_drewN | apply below_drew1 | refine below_set ?_ GE709.out) | exact HB.out)⟩
end Go.Proofs.Ytleegjkloclolaa.PA
end
section
namespace Go.Proofs.Ytleegjkloclolaa.PA
open Go.RowKit Go.Proofs.YtleegjkloclolaaW.PrintWords Go.Proofs.YtleegjkloclolaaW.PrintLast Go.Proofs.YtleegjkloclolaaW.PrintMore
attribute [local go_sem] max2_int min2_int max_two min_two max_three min_three max_four min_four   -- for this text's walks alone
set_option linter.unusedVariables false
set_option linter.unusedSimpArgs false
end Go.Proofs.Ytleegjkloclolaa.PA
end
section
namespace Go.Proofs.Ytleegjkloclolaa.PA
open Go.RowKit Go.Proofs.YtleegjkloclolaaW.PrintWords Go.Proofs.YtleegjkloclolaaW.PrintLast Go.Proofs.YtleegjkloclolaaW.PrintMore
attribute [local go_sem] max2_int min2_int max_two min_two max_three min_three max_four min_four   -- for this text's walks alone
set_option linter.unusedVariables false
set_option linter.unusedSimpArgs false
end Go.Proofs.Ytleegjkloclolaa.PA
end
section
namespace Go.Proofs.Ytleegjkloclolaa.PA
open Go.RowKit Go.Proofs.YtleegjkloclolaaW.PrintWords Go.Proofs.YtleegjkloclolaaW.PrintLast Go.Proofs.YtleegjkloclolaaW.PrintMore
attribute [local go_sem] max2_int min2_int max_two min_two max_three min_three max_four min_four   -- for this text's walks alone
set_option linter.unusedVariables false
set_option linter.unusedSimpArgs false
end Go.Proofs.Ytleegjkloclolaa.PA
end
section
namespace Go.Proofs.Ytleegjkloclolaa.PB
open Go.RowKit Go.Proofs.YtleegjkloclolaaW.PrintWords Go.Proofs.YtleegjkloclolaaW.PrintLast Go.Proofs.YtleegjkloclolaaW.PrintMore
set_option linter.unusedVariables false
theorem ev_pos {α : Type} {c : Prop} [Decidable c] {f g : Nat → Option α} {r : α} (hc : c) (h : Ev f r) : Ev (fun k => if c then f k else g k) r := by
  simp only [if_pos hc]; exact h
theorem ev_neg {α : Type} {c : Prop} [Decidable c] {f g : Nat → Option α} {r : α} (hc : ¬ c) (h : Ev g r) : Ev (fun k => if c then f k else g k) r := by
  simp only [if_neg hc]; exact h
theorem ev_bind {α β : Type} {g : Nat → Option α} {f : Nat → α → Option β} {a : α} {r : β} (h : Ev g a) (k : Ev (fun n => f n a) r) : Ev (fun n => (g n).bind (f n)) r := Ev.bind h k
theorem ev_const {α β : Type} {o : Option α} {f : Nat → α → Option β} {a : α} {r : β} (h : o = some a) (k : Ev (fun n => f n a) r) : Ev (fun n => o.bind (f n)) r := by
  subst h; exact k
theorem ev_of_eq {α : Type} {o : Option α} {r : α} (h : o = some r) : Ev (fun _ => o) r := by subst h; exact Ev.now r
theorem ev_eq {α : Type} {f : Nat → Option α} {r r' : α} (h : Ev f r) (e : r = r') : Ev f r' := e ▸ h
theorem w64 {x : Int} (h0 : -9223372036854775808 ≤ x) (h1 : x ≤ 9223372036854775807) : wrap64 x = x := by
  unfold wrap64; omega
theorem ba_ext {a b : ByteArray} (h : a.toList = b.toList) : a = b := by
  rw [ByteArray.toList_eq, ByteArray.toList_eq] at h
  have h' : a.data = b.data := Array.toList_inj.mp h
  cases a; cases b; simp_all
theorem ba_iff {a b : ByteArray} : a.toList = b.toList ↔ a = b := ⟨ba_ext, fun h => by rw [h]⟩
theorem ba_beq {a b : ByteArray} : (a.toList == b.toList) = decide (a = b) := by
  by_cases h : a = b
  · subst h; simp
  · simp [h, ba_iff]
theorem size_toList (s : ByteArray) : s.toList.length = s.size := by rw [ByteArray.toList_eq]; exact data_length s
theorem bt_get (s : ByteArray) (i : Nat) (h : i < s.size) : bt s (i : Int) = ((s.toList.getD i 0).toNat : Int) := by
  rw [ByteArray.toList_eq]
  unfold bt
  rw [dif_pos (by simpa using h)]
  have h' : i < s.data.toList.length := by rw [data_length]; exact h
  simp [List.getD_eq_getElem?_getD, List.getElem?_eq_getElem h']
  rfl
end Go.Proofs.Ytleegjkloclolaa.PB
end
section
namespace Go.Proofs.Ytleegjkloclolaa.PD
open Go.RowKit Go.Proofs.YtleegjkloclolaaW.PrintWords Go.Proofs.YtleegjkloclolaaW.PrintLast Go.Proofs.YtleegjkloclolaaW.PrintMore Go.Proofs.Ytleegjkloclolaa.PB Go.Proofs.Ytleegjkloclolaa.PA
set_option linter.unusedVariables false
def dstep (p : Int × Int) (c : UInt8) : Int × Int := ((p.1 + (c.toNat : Int)) % 65521, (p.2 + (p.1 + (c.toNat : Int)) % 65521) % 65521)
def dfold (p : Int × Int) (l : List UInt8) : Int × Int := l.foldl dstep p
def InP (p : Int × Int) : Prop := 0 ≤ p.1 ∧ p.1 < 65521 ∧ 0 ≤ p.2 ∧ p.2 < 65521
theorem dstep_in {p : Int × Int} {c : UInt8} : InP (dstep p c) := by
  unfold InP dstep; refine ⟨?_, ?_, ?_, ?_⟩ <;> simp only <;> omega
theorem dfold_in {p : Int × Int} (h : InP p) (l : List UInt8) : InP (dfold p l) := by
  induction l generalizing p with
  | nil => exact h
  | cons c l ih => exact ih dstep_in
def four (p : Int × Int) : ByteArray := strOfNums [p.2 / 256 % 256, p.2 % 256, p.1 / 256 % 256, p.1 % 256]
def dig (kind : Int) (s : ByteArray) : ByteArray := four (dfold (kind + 1, kind + 1) s.toList)
theorem drop_at (l : List UInt8) (i : Nat) (h : i < l.length) : l.drop i = l.getD i 0 :: l.drop (i + 1) := by
  rw [List.drop_eq_getElem_cons h]; simp [List.getD_eq_getElem?_getD, List.getElem?_eq_getElem h]
theorem step_arith {A B : Int} {c : Nat} (hA : 0 ≤ A ∧ A < 65521 ∧ 0 ≤ B ∧ B < 65521) (hc : c < 256) :
    Int.tmod (wrap64 (A + wrap64 (c : Int))) 65521 = (A + (c : Int)) % 65521 ∧ Int.tmod (wrap64 (B + (A + (c : Int)) % 65521)) 65521 = (B + (A + (c : Int)) % 65521) % 65521 := by
  have h1 : wrap64 (c : Int) = c := w64 (by omega) (by omega)
  have h2 : wrap64 (A + c) = A + c := w64 (by omega) (by omega)
  have h3 : wrap64 (B + (A + (c : Int)) % 65521) = B + (A + (c : Int)) % 65521 := w64 (by omega) (by omega)
  rw [h1, h2, h3, Int.tmod_eq_emod_of_nonneg (by omega), Int.tmod_eq_emod_of_nonneg (by omega)]
  exact ⟨rfl, rfl⟩
theorem feed_spec (s : ByteArray) (hs : s.size ≤ 1000000000000) (L : Int) (hL : 0 ≤ L ∧ L ≤ 1000000000000) : ∀ (d i : Nat) (A B : Int), i + d = s.size → InP (A, B) →
    Ev (fun k => spec_l1Feed.l0 k s (i : Int) A B L) ((dfold (A, B) (s.toList.drop i)).1, (dfold (A, B) (s.toList.drop i)).2, L + s.size) := by
  intro d
  induction d with
  | zero =>
    intro i A B hi hp
    refine Ev.step (f := fun _ => some (A, B, wrap64 (L + (s.size : Int)))) (fun k => ?_) ?_
    · simp only [spec_l1Feed.l0]; rw [if_neg (by omega)]
    · rw [List.drop_eq_nil_of_le (by rw [size_toList]; omega)]
      rw [w64 (by omega) (by omega)]
      exact Ev.now _
  | succ d ih =>
    intro i A B hi hp
    have hlt : i < s.size := by omega
    have hb := bt_get s i hlt
    have hc : (s.toList.getD i 0).toNat < 256 := UInt8.toNat_lt _
    have ha := step_arith (A := A) (B := B) hp hc
    refine Ev.step (f := fun k => spec_l1Feed.l0 k s ((i + 1 : Nat) : Int) (dstep (A, B) (s.toList.getD i 0)).1 (dstep (A, B) (s.toList.getD i 0)).2 L) (fun k => ?_) ?_
    · simp only [spec_l1Feed.l0]; rw [if_pos (by omega), if_pos (by omega), hb, ha.1, ha.2, w64 (x := (i : Int) + 1) (by omega) (by omega)]
      simp only [dstep]
      congr 1
    · rw [drop_at _ _ (by rw [size_toList]; exact hlt)]
      exact ih (i + 1) _ _ (by omega) dstep_in
theorem feed_impl (s : ByteArray) (hs : s.size ≤ 1000000000000) (L : Int) (hL : 0 ≤ L ∧ L ≤ 1000000000000) : ∀ (d i : Nat) (A B : Int), i + d = s.size → InP (A, B) →
    Ev (fun k => impl_Mix_feed.l0 k s (s.size : Int) (i : Int) A B L) ((dfold (A, B) (s.toList.drop i)).1, (dfold (A, B) (s.toList.drop i)).2, L + s.size) := by
  intro d
  induction d with
  | zero =>
    intro i A B hi hp
    refine Ev.step (f := fun _ => some (A, B, wrap64 (L + (s.size : Int)))) (fun k => ?_) ?_
    · simp only [impl_Mix_feed.l0]; rw [if_neg (by omega)]
    · rw [List.drop_eq_nil_of_le (by rw [size_toList]; omega)]
      rw [w64 (by omega) (by omega)]
      exact Ev.now _
  | succ d ih =>
    intro i A B hi hp
    have hlt : i < s.size := by omega
    have hb := bt_get s i hlt
    have hc : (s.toList.getD i 0).toNat < 256 := UInt8.toNat_lt _
    have ha := step_arith (A := A) (B := B) hp hc
    refine Ev.step (f := fun k => impl_Mix_feed.l0 k s (s.size : Int) ((i + 1 : Nat) : Int) (dstep (A, B) (s.toList.getD i 0)).1 (dstep (A, B) (s.toList.getD i 0)).2 L) (fun k => ?_) ?_
    · simp only [impl_Mix_feed.l0]; rw [if_pos (by omega), if_pos (by omega), if_pos (by omega), hb, ha.1, ha.2, w64 (x := (i : Int) + 1) (by omega) (by omega)]
      simp only [dstep]
      congr 1
    · rw [drop_at _ _ (by rw [size_toList]; exact hlt)]
      exact ih (i + 1) _ _ (by omega) dstep_in
def Kd_ (c : Int) : Prop := 97 ≤ c ∧ c ≤ 122
theorem digS (kind : Int) (hk : Kd_ kind) (s : ByteArray) (hs : s.size ≤ 1000000000000) : Ev (fun k => spec_l1Digest.f k kind s) (dig kind s) := by
  obtain ⟨h0, h1⟩ := hk
  have e1 : spec_NewMix.f kind = some (kind + 1, kind + 1, 0, true) := by
    unfold spec_NewMix.f spec_l1Kind.f
    rw [if_pos (by omega)]
    simp only [Option.bind_some, decide_eq_true h1, if_true]
    rw [w64 (x := kind) (by omega) (by omega), w64 (by omega) (by omega), Int.add_comm]
  have hp : InP (kind + 1, kind + 1) := by unfold InP; refine ⟨?_, ?_, ?_, ?_⟩ <;> simp only <;> omega
  obtain ⟨K, h⟩ := feed_spec s hs 0 (by omega) s.size 0 (kind + 1) (kind + 1) (by omega) hp
  refine ⟨K, fun k hk => ?_⟩
  have h' := h k hk
  dsimp only at h'
  rw [show ((0 : Nat) : Int) = 0 from rfl] at h'
  unfold spec_l1Digest.f spec_l1Feed.f spec_l1End.f
  simp only [e1, Option.bind_some]
  rw [h']
  simp only [Option.bind_some, List.drop_zero]
  rfl
theorem digI (kind : Int) (hk : Kd_ kind) (s : ByteArray) (hs : s.size ≤ 1000000000000) : Ev (fun k => impl_digest.f k kind s) (dig kind s) := by
  obtain ⟨h0, h1⟩ := hk
  have e1 : impl_newMix.f kind = some (kind + 1, kind + 1, 0) := by
    unfold impl_newMix.f
    rw [w64 (x := kind) (by omega) (by omega), w64 (by omega) (by omega)]
  have hp : InP (kind + 1, kind + 1) := by unfold InP; refine ⟨?_, ?_, ?_, ?_⟩ <;> simp only <;> omega
  obtain ⟨K, h⟩ := feed_impl s hs 0 (by omega) s.size 0 (kind + 1) (kind + 1) (by omega) hp
  refine ⟨K, fun k hk => ?_⟩
  have h' := h k hk
  dsimp only at h'
  rw [show ((0 : Nat) : Int) = 0 from rfl] at h'
  have hq := dfold_in hp s.toList
  unfold impl_digest.f impl_Mix_feed.f impl_Mix_end.f
  simp only [e1, Option.bind_some]
  rw [h']
  simp only [Option.bind_some, List.drop_zero]
  unfold dig four
  generalize dfold (kind + 1, kind + 1) s.toList = p at hq ⊢
  obtain ⟨q0, q1, q2, q3⟩ := hq
  rw [Int.tdiv_eq_ediv_of_nonneg q2, Int.tdiv_eq_ediv_of_nonneg q0, Int.tmod_eq_emod_of_nonneg q2, Int.tmod_eq_emod_of_nonneg q0, w64 (x := p.2 / 256) (by omega) (by omega), w64 (x := p.1 / 256) (by omega) (by omega)]
  rw [Int.emod_emod_of_dvd p.2 (Int.dvd_refl _), Int.emod_emod_of_dvd p.1 (Int.dvd_refl _)]
def one (n : Int) : ByteArray := strOfNums [n % 256]
theorem one_size (n : Int) : (one n).size = 1 := by unfold one; rw [strOfNums_size]; rfl
theorem oneI (n : Int) : impl_oneByte.f n = some (one n) := rfl
end Go.Proofs.Ytleegjkloclolaa.PD
end
section
namespace Go.Proofs.Ytleegjkloclolaa.PK
open Go.RowKit Go.Proofs.YtleegjkloclolaaW.PrintWords Go.Proofs.YtleegjkloclolaaW.PrintLast Go.Proofs.YtleegjkloclolaaW.PrintMore Go.Proofs.Ytleegjkloclolaa.PB Go.Proofs.Ytleegjkloclolaa.PD Go.Proofs.Ytleegjkloclolaa.PA
set_option linter.unusedVariables false
theorem app_size (a b : ByteArray) : (a ++ b).size = a.size + b.size := ByteArray.size_append
end Go.Proofs.Ytleegjkloclolaa.PK
end
section
namespace Go.Proofs.Ytleegjkloclolaa.PL
open Go.RowKit Go.Proofs.YtleegjkloclolaaW.PrintWords Go.Proofs.YtleegjkloclolaaW.PrintLast Go.Proofs.YtleegjkloclolaaW.PrintMore Go.Proofs.Ytleegjkloclolaa.PB Go.Proofs.Ytleegjkloclolaa.PA
set_option linter.unusedVariables false
theorem rdOf_at {α : Type} (d : α) (l : List α) (i : Nat) (h : i < l.length) : rdOf d l (i : Int) = l[i] := by
  simp [rdOf, List.getD_eq_getElem?_getD, List.getElem?_eq_getElem h]
def filled {α β : Type} (f : α → β) (z : β) (l : List α) (i : Nat) : List β := (l.take i).map f ++ List.replicate (l.length - i) z
theorem filled_length {α β : Type} (f : α → β) (z : β) (l : List α) (i : Nat) (h : i ≤ l.length) : (filled f z l i).length = l.length := by
  simp [filled, Nat.min_eq_left h]; omega
theorem filled_zero {α β : Type} (f : α → β) (z : β) (l : List α) : filled f z l 0 = List.replicate l.length z := by simp [filled]
theorem filled_all {α β : Type} (f : α → β) (z : β) (l : List α) : filled f z l l.length = l.map f := by simp [filled]
theorem filled_set {α β : Type} (f : α → β) (z : β) (l : List α) (i : Nat) (h : i < l.length) : (filled f z l i).set i (f l[i]) = filled f z l (i + 1) := by
  unfold filled
  rw [List.take_succ_eq_append_getElem h, List.map_append, List.map_cons, List.map_nil]
  have hl : ((l.take i).map f).length = i := by simp [Nat.min_eq_left (Nat.le_of_lt h)]
  obtain ⟨m, hm⟩ : ∃ m, l.length - i = m + 1 := ⟨l.length - i - 1, by omega⟩
  rw [hm, List.replicate_succ, List.set_append_right _ _ (by omega), hl, Nat.sub_self, List.set_cons_zero, show l.length - (i + 1) = m by omega]
  simp
theorem toS (l : List ByteArray) (hl : l.length ≤ 2000000) : Ev (fun k => laws_toStringS.f k l) l := by
  have key : ∀ (d i : Nat), i + d = l.length → Ev (fun k => laws_toStringS.l0 k l (filled (fun x => x) ⟨#[]⟩ l i) (i : Int)) l := by
    intro d
    induction d with
    | zero =>
      intro i hi
      have hi' : i = l.length := by omega
      subst hi'
      refine Ev.step (f := fun _ => some l) (fun k => ?_) (Ev.now _)
      simp only [laws_toStringS.l0]
      rw [if_neg (by omega), filled_all]
      simp
    | succ d ih =>
      intro i hi
      have hlt : i < l.length := by omega
      refine Ev.step (f := fun k => laws_toStringS.l0 k l (filled (fun x => x) ⟨#[]⟩ l (i + 1)) ((i + 1 : Nat) : Int)) (fun k => ?_) (ih (i + 1) (by omega))
      simp only [laws_toStringS.l0]
      rw [if_pos (by omega), if_pos (by omega), if_pos (by rw [filled_length _ _ _ _ (by omega)]; omega), rdOf_at _ _ _ hlt, w64 (x := (i : Int) + 1) (by omega) (by omega)]
      rw [show ((i : Int)).toNat = i from by omega, filled_set (fun x => x) _ l i hlt]
      rfl
  refine Ev.congr (f := fun k => laws_toStringS.l0 k l (filled (fun x => x) ⟨#[]⟩ l 0) ((0 : Nat) : Int)) (fun k => ?_) (key l.length 0 (by omega))
  simp only [laws_toStringS.f]
  rw [if_pos (by omega), if_pos (by omega), filled_zero]
  rfl
theorem eqS_yes (l : List ByteArray) (hl : l.length ≤ 2000000) : Ev (fun k => laws_eqStringS.f k l l) true := by
  have key : ∀ (d i : Nat), i + d = l.length → Ev (fun k => laws_eqStringS.l0 k l l (i : Int)) true := by
    intro d
    induction d with
    | zero =>
      intro i hi
      refine Ev.step (f := fun _ => some true) (fun k => ?_) (Ev.now _)
      simp only [laws_eqStringS.l0]
      rw [if_neg (by omega)]
    | succ d ih =>
      intro i hi
      refine Ev.step (f := fun k => laws_eqStringS.l0 k l l ((i + 1 : Nat) : Int)) (fun k => ?_) (ih (i + 1) (by omega))
      simp only [laws_eqStringS.l0]
      rw [if_pos (by omega), if_pos (by omega), if_pos (by omega), if_pos trivial, w64 (x := (i : Int) + 1) (by omega) (by omega)]
      rfl
  refine Ev.congr (f := fun k => laws_eqStringS.l0 k l l ((0 : Nat) : Int)) (fun k => ?_) (key l.length 0 (by omega))
  simp only [laws_eqStringS.f]
  rw [if_pos trivial]
  rfl
def szL : List ByteArray → Nat
  | [] => 0
  | s :: l => s.size + szL l
def total (l : List ByteArray) : Nat := l.length + szL l
def Fit (l : List ByteArray) : Prop := l.length ≤ 9223372036854775807 ∧ ∀ s ∈ l, s.size ≤ 9223372036854775807
theorem szS_loop (l : List ByteArray) (hf : Fit l) : ∀ (d i : Nat) (R : Int), i + d = l.length → 0 ≤ R → R ≤ 1000000000000 → l.length ≤ 1000000000000 →
    Ev (fun k => laws_szStringS.l0 k l R (i : Int)) (if (szL (l.drop i) : Int) ≤ R then R - szL (l.drop i) else -1) := by
  intro d
  induction d with
  | zero =>
    intro i R hi h0 h1 h2
    rw [List.drop_eq_nil_of_le (by omega)]
    refine Ev.step (f := fun _ => some R) (fun k => ?_) ?_
    · simp only [laws_szStringS.l0]
      rw [if_neg (by omega)]
    · rw [show szL [] = 0 from rfl, if_pos (by omega)]
      exact ev_eq (Ev.now R) (by omega)
  | succ d ih =>
    intro i R hi h0 h1 h2
    have hlt : i < l.length := by omega
    have hs := hf.2 _ (List.getElem_mem hlt)
    rw [List.drop_eq_getElem_cons hlt, show szL (l[i] :: l.drop (i + 1)) = l[i].size + szL (l.drop (i + 1)) from rfl]
    by_cases hc : (l[i].size : Int) ≤ R
    · refine Ev.step (f := fun k => laws_szStringS.l0 k l (R - l[i].size) ((i + 1 : Nat) : Int)) (fun k => ?_) ?_
      · simp only [laws_szStringS.l0]
        rw [if_pos (by omega), if_pos (by omega), rdOf_at _ _ _ hlt, w64 (x := R - (l[i].size : Int)) (by omega) (by omega), if_neg (by omega), w64 (x := (i : Int) + 1) (by omega) (by omega)]
        rfl
      · refine ev_eq (ih (i + 1) (R - l[i].size) (by omega) (by omega) (by omega) h2) ?_
        by_cases hd : (szL (l.drop (i + 1)) : Int) ≤ R - l[i].size
        · rw [if_pos hd, if_pos (by omega)]; omega
        · rw [if_neg hd, if_neg (by omega)]
    · refine Ev.step (f := fun _ => some (-1)) (fun k => ?_) ?_
      · simp only [laws_szStringS.l0]
        rw [if_pos (by omega), if_pos (by omega), rdOf_at _ _ _ hlt, w64 (x := R - (l[i].size : Int)) (by omega) (by omega), if_pos (by omega)]
      · rw [if_neg (by omega)]
        exact Ev.now _
theorem szS (l : List ByteArray) (hf : Fit l) (R : Int) (h0 : 0 ≤ R) (h1 : R ≤ 1000000000) : Ev (fun k => laws_szStringS.f k l R) (if (total l : Int) ≤ R then R - total l else -1) := by
  have hl := hf.1
  by_cases hc : (l.length : Int) ≤ R
  · refine Ev.congr (f := fun k => laws_szStringS.l0 k l (R - l.length) ((0 : Nat) : Int)) (fun k => ?_) ?_
    · simp only [laws_szStringS.f]
      rw [w64 (x := R - (l.length : Int)) (by omega) (by omega), if_neg (by omega)]
      rfl
    · refine ev_eq (szS_loop l hf l.length 0 (R - l.length) (by omega) (by omega) (by omega) (by omega)) ?_
      rw [List.drop_zero]
      unfold total
      by_cases hd : (szL l : Int) ≤ R - l.length
      · rw [if_pos hd, if_pos (by omega)]; omega
      · rw [if_neg hd, if_neg (by omega)]
  · refine Ev.congr (f := fun _ => some (-1)) (fun k => ?_) ?_
    · simp only [laws_szStringS.f]
      rw [w64 (x := R - (l.length : Int)) (by omega) (by omega), if_pos (by omega)]
    · unfold total
      rw [if_neg (by omega)]
      exact Ev.now _
end Go.Proofs.Ytleegjkloclolaa.PL
end
section
namespace Go.Proofs.Ytleegjkloclolaa.PS
open Go.RowKit Go.Proofs.YtleegjkloclolaaW.PrintWords Go.Proofs.YtleegjkloclolaaW.PrintLast Go.Proofs.YtleegjkloclolaaW.PrintMore Go.Proofs.Ytleegjkloclolaa.PB Go.Proofs.Ytleegjkloclolaa.PD Go.Proofs.Ytleegjkloclolaa.PK Go.Proofs.Ytleegjkloclolaa.PL Go.Proofs.Ytleegjkloclolaa.PA
set_option linter.unusedVariables false
end Go.Proofs.Ytleegjkloclolaa.PS
end
section
namespace Go.Proofs.Ytleegjkloclolaa.PT
open Go.RowKit Go.Proofs.YtleegjkloclolaaW.PrintWords Go.Proofs.YtleegjkloclolaaW.PrintLast Go.Proofs.YtleegjkloclolaaW.PrintMore Go.Proofs.Ytleegjkloclolaa.PB Go.Proofs.Ytleegjkloclolaa.PD Go.Proofs.Ytleegjkloclolaa.PK Go.Proofs.Ytleegjkloclolaa.PL Go.Proofs.Ytleegjkloclolaa.PS Go.Proofs.Ytleegjkloclolaa.PA
set_option linter.unusedVariables false
theorem inS (a b c : Int) : spec_l1In.f a b c = some (decide (b ≤ a ∧ a ≤ c)) := by
  unfold spec_l1In.f
  by_cases h : a ≥ b
  · rw [if_pos h]; simp [show b ≤ a from h]
  · rw [if_neg h]; simp [show ¬ b ≤ a from h]
theorem inI (a b c : Int) : impl_within.f a b c = some (decide (b ≤ a ∧ a ≤ c)) := by
  unfold impl_within.f
  by_cases h : a ≥ b
  · rw [if_pos h]; simp [show b ≤ a from h]
  · rw [if_neg h]; simp [show ¬ b ≤ a from h]
end Go.Proofs.Ytleegjkloclolaa.PT
end
section
namespace Go.Proofs.Ytleegjkloclolaa.PU
open Go.RowKit Go.Proofs.YtleegjkloclolaaW.PrintWords Go.Proofs.YtleegjkloclolaaW.PrintLast Go.Proofs.YtleegjkloclolaaW.PrintMore Go.Proofs.Ytleegjkloclolaa.PB Go.Proofs.Ytleegjkloclolaa.PD Go.Proofs.Ytleegjkloclolaa.PK Go.Proofs.Ytleegjkloclolaa.PL Go.Proofs.Ytleegjkloclolaa.PS Go.Proofs.Ytleegjkloclolaa.PT Go.Proofs.Ytleegjkloclolaa.PA
set_option linter.unusedVariables false
theorem idx_any {α : Type} (l : List α) (rf : List α → Int → α) (hrf : ∀ i (h : i < l.length), rf l (i : Int) = l[i]) (L0 : Nat → List α → Int → Int → Option Int) (cl : Nat → α → Option Bool) (p : α → Bool)
    (hstep : ∀ k n i, L0 (k + 1) l n i = if i < n then (if 0 ≤ i then (if i < (l.length : Int) then ((cl k (rf l i)).bind fun t => if t = true then some i else L0 k l n (wrap64 (i + 1))) else none) else none) else some (-1))
    (hp : ∀ x ∈ l, Ev (fun k => cl k x) (p x)) (hl : l.length ≤ 4000000000000000000) : ∃ r, Ev (fun k => L0 k l (l.length : Int) 0) r ∧ decide (r ≥ 0) = l.any p := by
  have key : ∀ (d i : Nat), i + d = l.length → ∃ r, Ev (fun k => L0 k l (l.length : Int) (i : Int)) r ∧ decide (r ≥ 0) = (l.drop i).any p := by
    intro d
    induction d with
    | zero =>
      intro i hi
      refine ⟨-1, Ev.step (f := fun _ => some (-1)) (fun k => ?_) (Ev.now _), ?_⟩
      · rw [hstep, if_neg (by omega)]
      · rw [List.drop_eq_nil_of_le (by omega)]; rfl
    | succ d ih =>
      intro i hi
      have hlt : i < l.length := by omega
      have hpx := hp _ (List.getElem_mem hlt)
      rw [List.drop_eq_getElem_cons hlt, List.any_cons]
      have st : ∀ k, L0 (k + 1) l (l.length : Int) (i : Int) = (cl k l[i]).bind fun t => if t = true then some (i : Int) else L0 k l (l.length : Int) ((i + 1 : Nat) : Int) := by
        intro k
        rw [hstep, if_pos (by omega), if_pos (by omega), if_pos (by omega), hrf i hlt, w64 (x := (i : Int) + 1) (by omega) (by omega)]
        rfl
      cases hb : p l[i] with
      | true =>
        rw [hb] at hpx
        refine ⟨(i : Int), Ev.step (f := fun k => (cl k l[i]).bind fun t => if t = true then some (i : Int) else L0 k l (l.length : Int) ((i + 1 : Nat) : Int)) st (ev_bind hpx (ev_pos rfl (Ev.now _))), ?_⟩
        simp only [Bool.true_or]
        exact decide_eq_true (by omega)
      | false =>
        rw [hb] at hpx
        obtain ⟨r, hr, e⟩ := ih (i + 1) (by omega)
        refine ⟨r, Ev.step (f := fun k => (cl k l[i]).bind fun t => if t = true then some (i : Int) else L0 k l (l.length : Int) ((i + 1 : Nat) : Int)) st (ev_bind hpx (ev_neg (by simp) hr)), ?_⟩
        rw [Bool.false_or]; exact e
  obtain ⟨r, hr, e⟩ := key l.length 0 (by omega)
  exact ⟨r, hr, by rw [e, List.drop_zero]⟩
theorem isDigI (s : ByteArray) : impl_isDigest.f s = some (decide (s.size = 4)) := by
  unfold impl_isDigest.f
  refine congrArg some ?_
  by_cases h : s.size = 4
  · rw [decide_eq_true h, h]; rfl
  · rw [decide_eq_false h]; exact beq_eq_false_iff_ne.mpr (by omega)
end Go.Proofs.Ytleegjkloclolaa.PU
end
section
namespace Go.Proofs.Ytleegjkloclolaa.PG
open Go.RowKit Go.Proofs.YtleegjkloclolaaW.PrintWords Go.Proofs.YtleegjkloclolaaW.PrintLast Go.Proofs.YtleegjkloclolaaW.PrintMore Go.Proofs.Ytleegjkloclolaa.PB Go.Proofs.Ytleegjkloclolaa.PL
set_option linter.unusedVariables false
def left (R : Int) (w : Nat) : Int := if (w : Int) ≤ R then R - w else -1
theorem left_yes {R : Int} {w : Nat} (h : (w : Int) ≤ R) : left R w = R - w := if_pos h
theorem left_no {R : Int} {w : Nat} (h : ¬ (w : Int) ≤ R) : left R w = -1 := if_neg h
end Go.Proofs.Ytleegjkloclolaa.PG
end
section
namespace Go.Proofs.Ytleegjkloclolaa.PQ
open Go.RowKit Go.Proofs.YtleegjkloclolaaW.PrintWords Go.Proofs.YtleegjkloclolaaW.PrintLast Go.Proofs.YtleegjkloclolaaW.PrintMore Go.Proofs.Ytleegjkloclolaa.PB Go.Proofs.Ytleegjkloclolaa.PD Go.Proofs.Ytleegjkloclolaa.PK Go.Proofs.Ytleegjkloclolaa.PL Go.Proofs.Ytleegjkloclolaa.PS Go.Proofs.Ytleegjkloclolaa.PT Go.Proofs.Ytleegjkloclolaa.PU Go.Proofs.Ytleegjkloclolaa.PG Go.Proofs.Ytleegjkloclolaa.PA
set_option linter.unusedVariables false
def rowFrom : ByteArray → List ByteArray → ByteArray
  | acc, [] => acc
  | acc, s :: l => rowFrom (acc ++ (one (s.size : Int) ++ s)) l
def rowM (l : List ByteArray) : ByteArray := rowFrom ⟨#[]⟩ l
theorem rowFrom_size (l : List ByteArray) : ∀ acc, (rowFrom acc l).size = acc.size + total l := by
  induction l with
  | nil => intro acc; simp [rowFrom, total, szL]
  | cons s l ih =>
    intro acc
    have e : total (s :: l) = 1 + s.size + total l := by simp only [total, szL, List.length_cons]; omega
    rw [show rowFrom acc (s :: l) = rowFrom (acc ++ (one (s.size : Int) ++ s)) l from rfl, ih, app_size, app_size, one_size, e]; omega
theorem rowM_size (l : List ByteArray) : (rowM l).size = total l := by
  unfold rowM; rw [rowFrom_size]; exact Nat.zero_add _
theorem rowS (l : List ByteArray) (hl : total l ≤ 1000000000) : Ev (fun k => spec_l1Row.f k l) (rowM l) := by
  have hlen : l.length ≤ 1000000000 := by unfold total at hl; omega
  have key : ∀ (d i : Nat) (acc : ByteArray), i + d = l.length → acc.size + total (l.drop i) ≤ 2000000000 → Ev (fun k => spec_l1Row.l0 k acc l (l.length : Int) (i : Int)) (rowFrom acc (l.drop i)) := by
    intro d
    induction d with
    | zero =>
      intro i acc hi _
      rw [List.drop_eq_nil_of_le (by omega)]
      refine Ev.step (f := fun _ => some acc) (fun k => ?_) (Ev.now _)
      simp only [spec_l1Row.l0]; rw [if_neg (by omega)]
    | succ d ih =>
      intro i acc hi ha
      have hlt : i < l.length := by omega
      rw [List.drop_eq_getElem_cons hlt] at ha ⊢
      have e : total (l[i] :: l.drop (i + 1)) = 1 + l[i].size + total (l.drop (i + 1)) := by simp only [total, szL, List.length_cons]; omega
      rw [e] at ha
      refine Ev.step (f := fun k => spec_l1Row.l0 k (acc ++ (one (l[i].size : Int) ++ l[i])) l (l.length : Int) ((i + 1 : Nat) : Int)) (fun k => ?_) ?_
      · simp only [spec_l1Row.l0]
        rw [if_pos (by omega), if_pos (by omega), if_pos (by omega), rdOf_at _ _ _ hlt, w64 (x := (i : Int) + 1) (by omega) (by omega)]
        have e1 : (strOfNums [(l[i].size : Int) % 256]).size = 1 := by rw [strOfNums_size]; rfl
        simp only [Option.bind_some]
        rw [if_pos (by omega), if_pos (by rw [app_size]; omega)]
        rfl
      · exact ih (i + 1) _ (by omega) (by rw [app_size, app_size, one_size]; omega)
  exact key l.length 0 ⟨#[]⟩ (by omega) (by rw [List.drop_zero]; show 0 + total l ≤ _; omega)
theorem kindI (c : Int) : impl_isKind.f c = some (decide (97 ≤ c ∧ c ≤ 122)) := by
  unfold impl_isKind.f
  by_cases h : c ≥ 97
  · rw [if_pos h]; simp [show 97 ≤ c from h]
  · rw [if_neg h]; simp [show ¬ 97 ≤ c from h]
def digestOfM (kind : Int) (s : ByteArray) : ByteArray × Bool := if (97 ≤ kind ∧ kind ≤ 122) ∧ s.size ≤ 600 then (dig kind s, true) else (⟨#[]⟩, false)
theorem digestOfI (kind : Int) (s : ByteArray) : Ev (fun k => impl_DigestOf.f k kind s) (digestOfM kind s) := by
  unfold digestOfM
  by_cases h1 : 97 ≤ kind ∧ kind ≤ 122
  · by_cases h2 : s.size ≤ 600
    · rw [if_pos ⟨h1, h2⟩]
      exact ev_const (kindI kind) (ev_pos (decide_eq_true h1) (ev_neg (by omega) (ev_bind (digI kind h1 s (by omega)) (Ev.now _))))
    · rw [if_neg (fun h => h2 h.2)]
      exact ev_const (kindI kind) (ev_pos (decide_eq_true h1) (ev_pos (by omega) (Ev.now _)))
  · rw [if_neg (fun h => h1 h.1)]
    exact ev_const (kindI kind) (ev_neg (by simp [h1]) (Ev.now _))
def small (l : List ByteArray) : Bool := l.all fun s => decide (s.size ≤ 100)
def listDigestM (kind : Int) (l : List ByteArray) : ByteArray × Bool := if l.length ≤ 20 then (if small l = true then digestOfM kind (rowM l) else (⟨#[]⟩, false)) else (⟨#[]⟩, false)
theorem listDigestI (kind : Int) (l : List ByteArray) : Ev (fun k => impl_ListDigest.f k kind l) (listDigestM kind l) := by
  unfold listDigestM impl_ListDigest.f
  by_cases hl : l.length ≤ 20
  · rw [if_pos hl]
    refine ev_neg (by omega) ?_
    have key : ∀ (d i : Nat) (acc : ByteArray), i + d = l.length → acc.size ≤ 101 * i → Ev (fun k => impl_ListDigest.l0 k kind acc l (l.length : Int) (i : Int)) (if small (l.drop i) = true then digestOfM kind (rowFrom acc (l.drop i)) else (⟨#[]⟩, false)) := by
      intro d
      induction d with
      | zero =>
        intro i acc hi _
        rw [List.drop_eq_nil_of_le (by omega), show small [] = true from rfl, if_pos rfl]
        refine Ev.step (f := fun k => (impl_DigestOf.f k kind acc).bind fun b => some (b.1, b.2)) (fun k => ?_) (ev_bind (digestOfI kind acc) (Ev.now _))
        simp only [impl_ListDigest.l0]; rw [if_neg (by omega)]
      | succ d ih =>
        intro i acc hi ha
        have hlt : i < l.length := by omega
        rw [List.drop_eq_getElem_cons hlt]
        by_cases hs : l[i].size ≤ 100
        · have e0 : small (l[i] :: l.drop (i + 1)) = small (l.drop (i + 1)) := by simp only [small, List.all_cons, decide_eq_true hs, Bool.true_and]
          rw [e0]
          refine Ev.step (f := fun k => impl_ListDigest.l0 k kind (acc ++ (one (l[i].size : Int) ++ l[i])) l (l.length : Int) ((i + 1 : Nat) : Int)) (fun k => ?_) ?_
          · simp only [impl_ListDigest.l0]
            rw [if_pos (by omega), if_pos (by omega), if_pos (by omega), rdOf_at _ _ _ hlt, if_neg (by omega), oneI, w64 (x := (i : Int) + 1) (by omega) (by omega)]
            simp only [Option.bind_some]
            rw [if_pos (by rw [one_size]; omega), if_pos (by rw [app_size, one_size]; omega)]
            rfl
          · exact ih (i + 1) _ (by omega) (by rw [app_size, app_size, one_size]; omega)
        · have e0 : small (l[i] :: l.drop (i + 1)) = false := by simp only [small, List.all_cons, decide_eq_false hs, Bool.false_and]
          rw [e0, if_neg (by simp)]
          refine Ev.step (f := fun _ => some (⟨#[]⟩, false)) (fun k => ?_) (Ev.now _)
          simp only [impl_ListDigest.l0]
          rw [if_pos (by omega), if_pos (by omega), if_pos (by omega), rdOf_at _ _ _ hlt, if_pos (by omega)]
    have := key l.length 0 ⟨#[]⟩ (by omega) (by simp [ByteArray.size])
    rw [List.drop_zero] at this
    exact this
  · rw [if_neg hl]
    exact ev_pos (by omega) (Ev.now _)
def nameOk (s : ByteArray) : Bool := decide (1 ≤ (s.size : Int) ∧ (s.size : Int) ≤ 8)
theorem nameS (s : ByteArray) : spec_l15Name.f s = some (nameOk s) := by unfold spec_l15Name.f; rw [inS]; rfl
theorem nameI (s : ByteArray) : impl_isName.f s = some (nameOk s) := by unfold impl_isName.f; rw [inI]; rfl
theorem nameOk_size {s : ByteArray} (h : nameOk s = true) : 1 ≤ s.size ∧ s.size ≤ 8 := by
  have := of_decide_eq_true h
  omega
def threeOk (a b c : ByteArray) : Bool := nameOk a && (nameOk b && decide ((c.size : Int) ≤ 40))
def commitM (a b c : ByteArray) : ByteArray := dig 98 (rowM [a, b, c])
theorem kb : Kd_ 98 := ⟨by decide, by decide⟩
theorem total3 {a b c : ByteArray} (h : threeOk a b c = true) : total [a, b, c] ≤ 100 ∧ c.size ≤ 40 ∧ nameOk a = true ∧ nameOk b = true := by
  simp only [threeOk, Bool.and_eq_true, decide_eq_true_eq] at h
  have h1 := nameOk_size h.1
  have h2 := nameOk_size h.2.1
  have h3 := h.2.2
  simp only [total, szL, List.length_cons, List.length_nil]
  exact ⟨by omega, by omega, h.1, h.2.1⟩
theorem goodS (a b c : ByteArray) : spec_l15Good.f a b c = some (threeOk a b c) := by
  unfold spec_l15Good.f threeOk
  rw [nameS, nameS]
  cases ha : nameOk a <;> cases hb : nameOk b <;> rfl
theorem commitS (a b c : ByteArray) (h : threeOk a b c = true) : Ev (fun k => spec_l15Commit.f k a b c) (commitM a b c) := by
  have ht := (total3 h).1
  exact ev_bind (rowS [a, b, c] (by omega)) (ev_bind (digS 98 kb _ (by rw [rowM_size]; omega)) (Ev.now _))
theorem commitI (a b c : ByteArray) : Ev (fun k => impl_CommitOf.f k a b c) (if threeOk a b c = true then (commitM a b c, true) else (⟨#[]⟩, false)) := by
  refine ev_const (nameI a) ?_
  cases ha : nameOk a with
  | false =>
    have e : threeOk a b c = false := by simp [threeOk, ha]
    rw [e, if_neg (by simp)]
    exact ev_neg (by simp) (Ev.now _)
  | true =>
    refine ev_pos rfl (ev_const (nameI b) ?_)
    cases hb : nameOk b with
    | false =>
      have e : threeOk a b c = false := by simp [threeOk, ha, hb]
      rw [e, if_neg (by simp)]
      exact ev_neg (by simp) (Ev.now _)
    | true =>
      refine ev_pos rfl ?_
      by_cases hc : (c.size : Int) ≤ 40
      · have e : threeOk a b c = true := by simp [threeOk, ha, hb, hc]
        have ht := total3 e
        rw [e, if_pos rfl]
        refine ev_neg (by omega) (ev_bind (listDigestI 98 [a, b, c]) ?_)
        have h1 := nameOk_size ha
        have h2 := nameOk_size hb
        have hsm : small [a, b, c] = true := by
          simp only [small, List.all_cons, List.all_nil, Bool.and_true, Bool.and_eq_true, decide_eq_true_eq]; omega
        have e2 : listDigestM 98 [a, b, c] = (commitM a b c, true) := by
          unfold listDigestM digestOfM
          rw [if_pos (by simp), if_pos hsm, if_pos ⟨by decide, by rw [rowM_size]; omega⟩]; rfl
        rw [e2]
        exact Ev.now _
      · have e : threeOk a b c = false := by simp [threeOk, ha, hb, hc]
        rw [e, if_neg (by simp)]
        exact ev_pos (by omega) (Ev.now _)
def emptyB (s : ByteArray) : Bool := s.toList == ([] : List UInt8)
def slotOk (a b c d : ByteArray) (o : Bool) : Bool :=
  if o = true then nameOk a && (decide (c.size = 4) && (emptyB b && emptyB d)) else threeOk a b d && decide (c = commitM a b d)
theorem slotS (a b c d : ByteArray) (o : Bool) : Ev (fun k => spec_l15Slot.f k a b c d o) (slotOk a b c d o) := by
  unfold slotOk spec_l15Slot.f
  cases o with
  | true =>
    refine ev_pos rfl (ev_const (nameS a) ?_)
    rw [if_pos rfl]
    cases ha : nameOk a with
    | false => exact ev_neg (by simp) (Ev.now _)
    | true =>
      refine ev_pos rfl ?_
      rw [Bool.true_and]
      by_cases hc : c.size = 4
      · refine ev_pos (by omega) ?_
        rw [decide_eq_true hc, Bool.true_and]
        by_cases hb : b.toList = ([] : List UInt8)
        · refine ev_pos hb ?_
          rw [show emptyB b = true from beq_iff_eq.2 hb, Bool.true_and]
          exact Ev.now _
        · refine ev_neg hb ?_
          rw [show emptyB b = false from beq_eq_false_iff_ne.2 hb, Bool.false_and]
          exact Ev.now _
      · refine ev_neg (by omega) ?_
        rw [decide_eq_false hc, Bool.false_and]
        exact Ev.now _
  | false =>
    refine ev_neg (by simp) (ev_const (goodS a b d) ?_)
    rw [if_neg (by simp)]
    cases hg : threeOk a b d with
    | false => exact ev_neg (by simp) (Ev.now _)
    | true =>
      refine ev_pos rfl (ev_bind (commitS a b d hg) ?_)
      rw [Bool.true_and]
      refine ev_eq (Ev.now _) ?_
      rw [ba_beq]
theorem slotI (a b c d : ByteArray) (o : Bool) : Ev (fun k => impl_isSlot.f k a b c d o) (slotOk a b c d o) := by
  unfold slotOk impl_isSlot.f
  cases o with
  | true =>
    refine ev_pos rfl (ev_const (nameI a) ?_)
    rw [if_pos rfl]
    cases ha : nameOk a with
    | false => exact ev_neg (by simp) (Ev.now _)
    | true =>
      refine ev_pos rfl (ev_const (isDigI c) ?_)
      rw [Bool.true_and]
      by_cases hc : c.size = 4
      · refine ev_pos (decide_eq_true hc) ?_
        rw [decide_eq_true hc, Bool.true_and]
        by_cases hb : b.toList = ([] : List UInt8)
        · refine ev_pos hb ?_
          rw [show emptyB b = true from beq_iff_eq.2 hb, Bool.true_and]
          exact Ev.now _
        · refine ev_neg hb ?_
          rw [show emptyB b = false from beq_eq_false_iff_ne.2 hb, Bool.false_and]
          exact Ev.now _
      · refine ev_neg (by simp [hc]) ?_
        rw [decide_eq_false hc, Bool.false_and]
        exact Ev.now _
  | false =>
    show Ev _ (threeOk a b d && decide (c = commitM a b d))
    refine ev_neg (by simp) (ev_bind (commitI a b d) ?_)
    cases hg : threeOk a b d with
    | false => exact ev_neg (by simp) (Ev.now _)
    | true =>
      refine ev_pos rfl ?_
      rw [Bool.true_and]
      refine ev_eq (Ev.now _) ?_
      show ((commitM a b d).toList == c.toList) = _
      rw [ba_beq]
      by_cases h : c = commitM a b d
      · rw [decide_eq_true h, h]; simp
      · rw [decide_eq_false h, decide_eq_false (fun e => h e.symm)]
end Go.Proofs.Ytleegjkloclolaa.PQ
end
section
namespace Go.Proofs.Ytleegjkloclolaa.PV
open Go.RowKit Go.Proofs.YtleegjkloclolaaW.PrintWords Go.Proofs.YtleegjkloclolaaW.PrintLast Go.Proofs.YtleegjkloclolaaW.PrintMore Go.Proofs.Ytleegjkloclolaa.PB Go.Proofs.Ytleegjkloclolaa.PD Go.Proofs.Ytleegjkloclolaa.PK Go.Proofs.Ytleegjkloclolaa.PL Go.Proofs.Ytleegjkloclolaa.PS Go.Proofs.Ytleegjkloclolaa.PT Go.Proofs.Ytleegjkloclolaa.PU Go.Proofs.Ytleegjkloclolaa.PG Go.Proofs.Ytleegjkloclolaa.PQ Go.Proofs.Ytleegjkloclolaa.PA
set_option linter.unusedVariables false
theorem szSlot (a b c d : ByteArray) (o : Bool) (h : a.size ≤ 9223372036854775807 ∧ b.size ≤ 9223372036854775807 ∧ c.size ≤ 9223372036854775807 ∧ d.size ≤ 9223372036854775807) (R : Int) (h0 : 0 ≤ R) (h1 : R ≤ 1000000000000) :
    laws_szSlot.f a b c d o R = some (left R (a.size + b.size + c.size + d.size)) := by
  obtain ⟨ha, hb, hc, hd⟩ := h
  unfold laws_szSlot.f left
  rw [w64 (x := R - (a.size : Int)) (by omega) (by omega)]
  by_cases c1 : R - (a.size : Int) < 0
  · rw [if_pos c1, if_neg (by omega)]
  rw [if_neg c1, w64 (x := R - (a.size : Int) - (b.size : Int)) (by omega) (by omega)]
  by_cases c2 : R - (a.size : Int) - (b.size : Int) < 0
  · rw [if_pos c2, if_neg (by omega)]
  rw [if_neg c2, w64 (x := R - (a.size : Int) - (b.size : Int) - (c.size : Int)) (by omega) (by omega)]
  by_cases c3 : R - (a.size : Int) - (b.size : Int) - (c.size : Int) < 0
  · rw [if_pos c3, if_neg (by omega)]
  rw [if_neg c3, w64 (x := R - (a.size : Int) - (b.size : Int) - (c.size : Int) - (d.size : Int)) (by omega) (by omega)]
  by_cases c4 : R - (a.size : Int) - (b.size : Int) - (c.size : Int) - (d.size : Int) < 0
  · rw [if_pos c4, if_neg (by omega)]
  rw [if_neg c4, if_pos (by omega)]
  refine congrArg some ?_
  omega
end Go.Proofs.Ytleegjkloclolaa.PV
end
section
namespace Go.Proofs.Ytleegjkloclolaa.Pure
open Go.RowKit Go.Proofs.YtleegjkloclolaaW.PrintWords Go.Proofs.YtleegjkloclolaaW.PrintLast Go.Proofs.YtleegjkloclolaaW.PrintMore Go.Proofs.Ytleegjkloclolaa.PB Go.Proofs.Ytleegjkloclolaa.PD Go.Proofs.Ytleegjkloclolaa.PK Go.Proofs.Ytleegjkloclolaa.PL Go.Proofs.Ytleegjkloclolaa.PT Go.Proofs.Ytleegjkloclolaa.PU Go.Proofs.Ytleegjkloclolaa.PG Go.Proofs.Ytleegjkloclolaa.PQ Go.Proofs.Ytleegjkloclolaa.PV Go.Proofs.Ytleegjkloclolaa.PA
set_option linter.unusedVariables false
def textOk (s : ByteArray) : Bool := decide (5 ≤ (s.size : Int) ∧ (s.size : Int) ≤ 12)
theorem ks : Kd_ 115 := ⟨by decide, by decide⟩
theorem texts_small (l : List ByteArray) (h : l.all textOk = true) (hl : l.length ≤ 20) : small l = true ∧ total l ≤ 260 := by
  have key : ∀ l : List ByteArray, l.all textOk = true → small l = true ∧ total l ≤ 13 * l.length := by
    intro l
    induction l with
    | nil => intro _; exact ⟨rfl, by simp [total, szL]⟩
    | cons a l ih =>
      intro h
      rw [List.all_cons, Bool.and_eq_true] at h
      have ha := of_decide_eq_true h.1
      obtain ⟨h1, h2⟩ := ih h.2
      simp only [total, szL, List.length_cons] at h2 ⊢
      refine ⟨?_, by omega⟩
      simp only [small, List.all_cons, Bool.and_eq_true, decide_eq_true_eq]
      exact ⟨by omega, h1⟩
  obtain ⟨h1, h2⟩ := key l h
  exact ⟨h1, by omega⟩
def heldM (dg a c : ByteArray) (k0 : Int) (l : List ByteArray) : Bool × Bool := if (dig 115 (rowM l)).toList = dg.toList then ((rdOf ByteArray.empty l k0).toList == (a ++ c).toList, true) else (false, true)
theorem checkSlot_two (dg : ByteArray) (k0 : Int) (a b c d : ByteArray) (o : Bool) (l : List ByteArray) (hl : l.length ≤ 2000000) (hac : a.size + c.size ≤ 1000000000) : ∃ r, Ev (fun k => spec_CheckSlot.f k dg k0 a b c d o l) r ∧ Ev (fun k => impl_CheckSlot.f k dg k0 a b c d o l) r := by
  have hContains : Ev (fun k => slices_ContainsFunc_impl_CheckSlot_1.f k l) (!(l.all textOk)) := by
    obtain ⟨r, hr, e⟩ := idx_any l (fun l i => rdOf ByteArray.empty l i) (fun i h => rdOf_at _ l i h) slices_IndexFunc_impl_CheckSlot_1.l0 (fun _ s => impl_CheckSlot_1.f s) (fun s => !textOk s) (fun k n i => rfl) (fun x _ => ev_of_eq (by unfold impl_CheckSlot_1.f; rw [inI]; rfl)) (by omega)
    have e2 : ∀ l : List ByteArray, (l.any fun s => !textOk s) = !(l.all textOk) := by
      intro l
      induction l with
      | nil => rfl
      | cons x l ih => simp only [List.any_cons, List.all_cons, Bool.not_and, ih]
    rw [← e2, ← e]
    exact ev_bind (f := fun _ t => some (decide (t ≥ 0))) hr (Ev.now _)
  have hin : ∀ {n : Int}, impl_within.f k0 0 (wrap64 ((l.length : Int) - 1)) = some (decide (0 ≤ k0 ∧ k0 < (l.length : Int))) := by
    intro _
    rw [w64 (x := (l.length : Int) - 1) (by omega) (by omega), inI]
    by_cases h : 0 ≤ k0 ∧ k0 < (l.length : Int)
    · rw [decide_eq_true h, decide_eq_true ⟨h.1, by omega⟩]
    · rw [decide_eq_false h, decide_eq_false (fun h2 => h ⟨h2.1, by omega⟩)]
  -- the program's end, of a flag
  have jI : Ev (fun k => impl_CheckSlot.j0 k dg k0 l true a b c d o) (false, false) :=
    Ev.step (f := fun _ => some (false, false)) (fun k => by simp only [impl_CheckSlot.j0]; rw [if_pos trivial]) (Ev.now _)
  have jS : Ev (fun k => spec_CheckSlot.j1 k dg k0 l true a b c d o) (false, false) :=
    Ev.step (f := fun _ => some (false, false)) (fun k => by simp only [spec_CheckSlot.j1]; rw [if_pos trivial]) (Ev.now _)
  -- the reference's loop: all texts are as said, or it ends
  have loopS : ∀ r, Ev (fun k => spec_CheckSlot.l0 k dg k0 l l (l.length : Int) (l.length : Int) a b c d o) r → Ev (fun k => spec_CheckSlot.f k dg k0 a b c d o l) (if l.all textOk = true then r else (false, false)) := by
    intro r hr
    have key : ∀ (n i : Nat), i + n = l.length → Ev (fun k => spec_CheckSlot.l0 k dg k0 l l (l.length : Int) (i : Int) a b c d o) (if (l.drop i).all textOk = true then r else (false, false)) := by
      intro n
      induction n with
      | zero =>
        intro i hi
        rw [List.drop_eq_nil_of_le (by omega), List.all_nil, if_pos rfl, show i = l.length by omega]
        exact hr
      | succ n ih =>
        intro i hi
        have hlt : i < l.length := by omega
        rw [List.drop_eq_getElem_cons hlt, List.all_cons]
        have he : spec_l1In.f (l[i].size : Int) 5 12 = some (textOk l[i]) := inS _ _ _
        refine Ev.step (f := fun k => if textOk l[i] = true then spec_CheckSlot.l0 k dg k0 l l (l.length : Int) ((i + 1 : Nat) : Int) a b c d o else some (false, false)) (fun k => ?_) ?_
        · simp only [spec_CheckSlot.l0]
          rw [if_pos (by omega), if_pos (by omega), if_pos (by omega), rdOf_at _ _ _ hlt, he, w64 (x := (i : Int) + 1) (by omega) (by omega)]
          rfl
        · cases ht : textOk l[i] with
          | true => rw [Bool.true_and]; exact ev_pos rfl (ih (i + 1) (by omega))
          | false => rw [Bool.false_and]; exact ev_neg (by simp) (Ev.now _)
    exact key l.length 0 (by omega)
  -- the reference behind the loop
  have endS : Ev (fun k => spec_CheckSlot.l0 k dg k0 l l (l.length : Int) (l.length : Int) a b c d o) (if (decide (dg.size = 4) && (decide (l.length ≤ 20) && (decide (0 ≤ k0 ∧ k0 < (l.length : Int)) && slotOk a b c d o))) = true ∧ l.all textOk = true then heldM dg a c k0 l else (false, false)) ∨ l.all textOk = false := by
    cases hall : l.all textOk with
    | false => exact Or.inr rfl
    | true =>
      refine Or.inl ?_
      refine Ev.step (f := fun k => if (dg.size : Int) = 4 then (if (l.length : Int) > 20 then (spec_CheckSlot.j1 k dg k0 l true a b c d o) else (if k0 < 0 then (spec_CheckSlot.j1 k dg k0 l true a b c d o) else (if k0 ≥ (l.length : Int) then (spec_CheckSlot.j1 k dg k0 l true a b c d o) else ((spec_l15Slot.f k a b c d o).bind fun t677 => (spec_CheckSlot.j1 k dg k0 l (!t677) a b c d o))))) else (spec_CheckSlot.j1 k dg k0 l true a b c d o)) (fun k => by simp only [spec_CheckSlot.l0]; rw [if_neg (by omega)]) ?_
      by_cases h1 : dg.size = 4
      · refine ev_pos (by omega) ?_
        by_cases h2 : l.length ≤ 20
        · refine ev_neg (by omega) ?_
          by_cases h3 : 0 ≤ k0 ∧ k0 < (l.length : Int)
          · refine ev_neg (by omega) (ev_neg (by omega) (ev_bind (slotS a b c d o) ?_))
            cases h4 : slotOk a b c d o with
            | false =>
              exact ev_eq jS (if_neg (by simp)).symm
            | true =>
              refine ev_eq (r := heldM dg a c k0 l) ?_ (if_pos ⟨by simp [h1, h2, h3], rfl⟩).symm
              have hsm := texts_small l hall h2
              refine Ev.step (f := fun k => (spec_l1Row.f k l).bind fun t678 => ((spec_l1Digest.f k 115 t678).bind fun t679 => (if t679.toList = dg.toList then (if 0 ≤ k0 then (if k0 < (l.length : Int) then (if a.size + c.size ≤ 9223372036854775807 then (some (((rdOf ByteArray.empty l k0).toList == (a ++ c).toList), true)) else (none)) else (none)) else (none)) else (some (false, true))))) (fun k => by simp only [spec_CheckSlot.j1]; rw [if_neg (by simp)]) ?_
              refine ev_bind (rowS l (by omega)) (ev_bind (digS 115 ks _ (by rw [rowM_size]; omega)) ?_)
              by_cases h5 : (dig 115 (rowM l)).toList = dg.toList
              · exact ev_pos h5 (ev_pos h3.1 (ev_pos h3.2 (ev_pos (by omega) (ev_eq (Ev.now _) (by unfold heldM; rw [if_pos h5])))))
              · exact ev_neg h5 (ev_eq (Ev.now _) (by unfold heldM; rw [if_neg h5]))
          · refine ev_eq (r := (false, false)) ?_ (if_neg (by simp [h3])).symm
            by_cases h4 : k0 < 0
            · exact ev_pos h4 jS
            · exact ev_neg h4 (ev_pos (by omega) jS)
        · exact ev_eq (ev_pos (by omega) jS) (if_neg (by simp [h2])).symm
      · exact ev_eq (ev_neg (by omega) jS) (if_neg (by simp [h1])).symm
  -- the program
  have allI : Ev (fun k => impl_CheckSlot.f k dg k0 a b c d o l) (if (decide (dg.size = 4) && (decide (l.length ≤ 20) && (decide (0 ≤ k0 ∧ k0 < (l.length : Int)) && slotOk a b c d o))) = true ∧ l.all textOk = true then heldM dg a c k0 l else (false, false)) := by
    refine ev_const (isDigI dg) ?_
    by_cases h1 : dg.size = 4
    · refine ev_pos (decide_eq_true h1) (ev_bind (slotI a b c d o) ?_)
      cases h4 : slotOk a b c d o with
      | false =>
        exact ev_eq (ev_neg (by simp) jI) (if_neg (by simp)).symm
      | true =>
        refine ev_pos rfl ?_
        by_cases h2 : l.length ≤ 20
        · refine ev_neg (by omega) (ev_const (hin (n := 0)) ?_)
          by_cases h3 : 0 ≤ k0 ∧ k0 < (l.length : Int)
          · rw [decide_eq_true h3]
            refine Ev.step (f := fun k => (slices_ContainsFunc_impl_CheckSlot_1.f k l).bind fun t705 => (if t705 = true then (some (false, false)) else ((impl_ListDigest.f k 115 l).bind fun bt706 => (if bt706.1.toList = dg.toList then (if 0 ≤ k0 then (if k0 < (l.length : Int) then (if a.size + c.size ≤ 9223372036854775807 then (some (((rdOf ByteArray.empty l k0).toList == (a ++ c).toList), true)) else (none)) else (none)) else (none)) else (some (false, true)))))) (fun k => by simp only [impl_CheckSlot.j0]; rw [if_neg (by simp)]) ?_
            refine ev_bind hContains ?_
            cases hall : l.all textOk with
            | false =>
              exact ev_eq (ev_pos rfl (Ev.now _)) (if_neg (by simp)).symm
            | true =>
              refine ev_eq (r := heldM dg a c k0 l) ?_ (if_pos ⟨by simp [h1, h2], rfl⟩).symm
              have hsm := texts_small l hall h2
              have e : listDigestM 115 l = (dig 115 (rowM l), true) := by
                unfold listDigestM digestOfM
                rw [if_pos h2, if_pos hsm.1, if_pos ⟨by decide, by rw [rowM_size]; omega⟩]
              refine ev_neg (by simp) (ev_bind (listDigestI 115 l) ?_)
              rw [e]
              by_cases h5 : (dig 115 (rowM l)).toList = dg.toList
              · exact ev_pos h5 (ev_pos h3.1 (ev_pos h3.2 (ev_pos (by omega) (ev_eq (Ev.now _) (by unfold heldM; rw [if_pos h5])))))
              · exact ev_neg h5 (ev_eq (Ev.now _) (by unfold heldM; rw [if_neg h5]))
          · rw [decide_eq_false h3]
            exact ev_eq jI (if_neg (by simp)).symm
        · exact ev_eq (ev_pos (by omega) jI) (if_neg (by simp [h2])).symm
    · exact ev_eq (ev_neg (by simp [h1]) jI) (if_neg (by simp [h1])).symm
  rcases endS with h | h
  · have := loopS _ h
    refine ⟨_, this, ?_⟩
    cases hall : l.all textOk with
    | true => rw [if_pos rfl]; rw [hall] at allI; exact allI
    | false => rw [if_neg (by simp)]; rw [hall, if_neg (by simp)] at allI; exact allI
  · -- a text that is not as said: the reference ends at it
    have key : Ev (fun k => spec_CheckSlot.f k dg k0 a b c d o l) (false, false) := by
      have key : ∀ (n i : Nat), i + n = l.length → (l.drop i).all textOk = false → Ev (fun k => spec_CheckSlot.l0 k dg k0 l l (l.length : Int) (i : Int) a b c d o) (false, false) := by
        intro n
        induction n with
        | zero =>
          intro i hi hf
          rw [List.drop_eq_nil_of_le (by omega)] at hf
          simp at hf
        | succ n ih =>
          intro i hi hf
          have hlt : i < l.length := by omega
          rw [List.drop_eq_getElem_cons hlt, List.all_cons] at hf
          have he : spec_l1In.f (l[i].size : Int) 5 12 = some (textOk l[i]) := inS _ _ _
          refine Ev.step (f := fun k => if textOk l[i] = true then spec_CheckSlot.l0 k dg k0 l l (l.length : Int) ((i + 1 : Nat) : Int) a b c d o else some (false, false)) (fun k => ?_) ?_
          · simp only [spec_CheckSlot.l0]
            rw [if_pos (by omega), if_pos (by omega), if_pos (by omega), rdOf_at _ _ _ hlt, he, w64 (x := (i : Int) + 1) (by omega) (by omega)]
            rfl
          · cases ht : textOk l[i] with
            | true => rw [ht, Bool.true_and] at hf; exact ev_pos rfl (ih (i + 1) (by omega) hf)
            | false => exact ev_neg (by simp) (Ev.now _)
      exact key l.length 0 (by omega) (by rw [List.drop_zero]; exact h)
    refine ⟨_, key, ?_⟩
    rw [h, if_neg (by simp)] at allI
    exact allI
theorem FnExactCheckSlot (dg : ByteArray) (k0 : Int) (a b c d : ByteArray) (o : Bool) (l : List ByteArray) (h0 : dg.size ≤ maxLen) (hk : (Lit.int .i64 k0).wf = true)
    (hs : a.size ≤ maxLen ∧ b.size ≤ maxLen ∧ c.size ≤ maxLen ∧ d.size ≤ maxLen ∧ True) (hf : l.length ≤ maxLen ∧ ∀ s ∈ l, s.size ≤ maxLen) : ∃ k, laws_FnExactCheckSlot.f k dg k0 a b c d o l = some true := by
  refine Ev.rounds ?_
  unfold laws_FnExactCheckSlot.f
  by_cases c0 : (dg.size : Int) > 1048576
  · simp only [if_pos c0]; exact Ev.now _
  simp only [if_neg c0]
  have hz := szSlot a b c d o ⟨hs.1, hs.2.1, hs.2.2.1, hs.2.2.2.1⟩ 1048576 (by omega) (by omega)
  refine ev_const hz ?_
  by_cases ht : ((a.size + b.size + c.size + d.size : Nat) : Int) ≤ 1048576
  · rw [left_yes ht]
    refine ev_neg (by omega) ?_
    have hz2 := szS l hf (1048576 - ((a.size + b.size + c.size + d.size : Nat) : Int)) (by omega) (by omega)
    by_cases ht2 : (total l : Int) ≤ 1048576 - ((a.size + b.size + c.size + d.size : Nat) : Int)
    · rw [if_pos ht2] at hz2
      have hl : l.length ≤ 2000000 := by unfold total at ht2; omega
      obtain ⟨⟨r, ok⟩, hsS, hiI⟩ := checkSlot_two dg k0 a b c d o l hl (by omega)
      refine ev_bind hz2 (ev_neg (by omega) (ev_const (a := (a, b, c, d, o)) rfl (ev_bind (toS l hl) (ev_bind hsS (ev_bind (toS l hl) (ev_const (a := (a, b, c, d, o)) rfl (ev_bind hiI ?_)))))))
      refine ev_neg (by simp) ?_
      refine Ev.step (f := fun k => _) (fun k => by simp only [laws_FnExactCheckSlot.j0]; rfl) ?_
      exact ev_neg (by simp) (ev_bind (toS l hl) (ev_bind (eqS_yes l hl) (ev_pos rfl (Ev.now _))))
    · rw [if_neg ht2] at hz2
      exact ev_bind hz2 (ev_pos (by omega) (Ev.now _))
  · rw [left_no ht]
    exact ev_pos (by omega) (Ev.now _)
end Go.Proofs.Ytleegjkloclolaa.Pure
end
section
namespace Go.Proofs.Ytleegjkloclolaa.RO
open Go.RowKit Go.Proofs.YtleegjkloclolaaW.PrintWords Go.ChangeShapes Go.WideShapes
def Opn (P : Program) (W : World) (e : TypeId) {α : Type} (d : Kd α) (G : α → Prop) : Prop :=
  ∀ {H : Type} {enc : TypeId × Value → H} {base : Nat} {spare : Nat → Bool} {held : Bool} {n : Nat} {cs : List Value} {x : DataW H × List MemPlace},
    DataW.trod enc P W base spare held n e cs = some x → ∃ y : α, d.K W y cs ∧ G y
section
variable {P : Program} {W : World} {e t : TypeId}
theorem op_string (he : P.underlying e = some .string) : Opn P W e Kd.string (fun s => s.size ≤ maxLen) := by
  intro H enc base spare held n cs x h
  obtain ⟨s, rfl, _, hs⟩ := DataW.trod_string he h
  exact ⟨s, rfl, hs⟩
theorem op_bool (he : P.underlying e = some .bool) : Opn P W e Kd.bool (fun _ => True) := by
  intro H enc base spare held n cs x h
  obtain ⟨b, rfl, _⟩ := DataW.trod_bool he h
  exact ⟨b, rfl, trivial⟩
theorem pick {α : Type} {p : Nat → α → Prop} : ∀ (n : Nat), (∀ i, i < n → ∃ y, p i y) → ∃ ys : List α, ys.length = n ∧ ∀ i y, ys[i]? = some y → p i y := by
  intro n
  induction n with
  | zero => intro _; exact ⟨[], rfl, fun i y h => by simp at h⟩
  | succ n ih =>
    intro h
    obtain ⟨ys, hl, hp⟩ := ih (fun i hi => h i (by omega))
    obtain ⟨y, hy⟩ := h n (by omega)
    refine ⟨ys ++ [y], by simp [hl], fun i z hz => ?_⟩
    by_cases hi : i < n
    · rw [List.getElem?_append_left (by omega)] at hz
      exact hp i z hz
    · rw [List.getElem?_append_right (by omega)] at hz
      have : i = n := by
        rcases Nat.lt_or_ge (i - ys.length) 1 with h1 | h1
        · omega
        · rw [List.getElem?_eq_none (by simpa using h1)] at hz; cases hz
      subst this
      rw [hl, Nat.sub_self] at hz
      simp at hz
      subst hz
      exact hy
theorem op_slice {α : Type} {d : Kd α} {G : α → Prop} (ht : P.underlying t = some (.slice e)) (hc : P.cellsOf e = d.sz) (ho : Opn P W e d G) : Opn P W t (Kd.slice e d) (fun l => l.length ≤ maxLen ∧ ∀ x ∈ l, G x) := by
  intro H enc base spare held n cs x h
  rcases Deep.open_slice ht h with ⟨rfl, _⟩ | ⟨a, len, cap, m, n', D, Pl, rfl, _, hl, hm, hmm, _, hx⟩
  · exact ⟨[], ⟨none, 0, rfl, Nat.le_refl _, Kd.C_nil _ _⟩, by simp [maxLen], fun x hx => by cases hx⟩
  · obtain ⟨ys, hyl, hy⟩ := pick (p := fun i y => ∃ c, c.length = d.sz ∧ d.K W y c ∧ G y ∧ ∀ j u, c[j]? = some u → W.cell? (a.add (i * d.sz + j)) = some u) len (fun i hi => by
      have him : i < m := by rw [hmm]; split <;> omega
      obtain ⟨c, h1, h2⟩ := hx i him
      obtain ⟨y, hk, hg⟩ := ho h2
      obtain ⟨_, hcl, hcell⟩ := World.cells?_some h1
      rw [hc] at hcl hcell
      refine ⟨y, c, hcl, hk, hg, fun j u hj => ?_⟩
      have hj' : j < d.sz := by rw [← hcl]; exact (List.getElem?_eq_some_iff.1 hj).1
      have := hcell j hj'
      rw [hj] at this
      rw [← this]
      congr 1
      have e0 : ∀ p q : Nat, (a.add p).add q = a.add (p + q) := by
        intro p q
        obtain ⟨b, o, s⟩ := a
        unfold Addr.add
        by_cases hp : p = 0
        · subst hp; simp
        · by_cases hq : q = 0
          · subst hq; simp [hp]
          · simp [hp, hq]; omega
      rw [e0])
    refine ⟨ys, ⟨some a, cap, by rw [hyl], by omega, rfl, by rw [hyl]; unfold maxLen at hm; omega, fun h0 => ⟨a, rfl, fun j p hj => ?_⟩⟩, by rw [hyl]; omega, fun x hx => ?_⟩
    · obtain ⟨c, h1, h2, _, h3⟩ := hy j p hj
      exact ⟨c, h1, h2, h3⟩
    · obtain ⟨i, hi⟩ := List.getElem?_of_mem hx
      obtain ⟨c, _, _, h, _⟩ := hy i x hi
      exact h
def OpAt (P : Program) (W : World) (fs : List (TypeId × Nat)) (off : Nat) {α : Type} (d : Kd α) (G : α → Prop) : Prop :=
  ∀ {H : Type} {enc : TypeId × Value → H} {base : Nat} {spare : Nat → Bool} {held : Bool} {n : Nat} {cs : List Value}, cs.length = off + d.sz →
    (∀ f ∈ fs, ∃ x, DataW.trod enc P W base spare held n f.1 ((cs.drop f.2).take (P.cellsOf f.1)) = some x) → ∃ y : α, d.K W y (cs.drop off) ∧ G y
theorem opAt_one {off : Nat} {α : Type} {d : Kd α} {G : α → Prop} (hc : P.cellsOf e = d.sz) (h : Opn P W e d G) : OpAt P W [(e, off)] off d G := by
  intro H enc base spare held n cs hl hf
  obtain ⟨x, hx⟩ := hf (e, off) (List.mem_singleton.2 rfl)
  dsimp only at hx
  rw [hc, List.take_of_length_le (by rw [List.length_drop]; omega)] at hx
  exact h hx
theorem opAt_cons {off : Nat} {fs : List (TypeId × Nat)} {α β : Type} {d1 : Kd α} {d2 : Kd β} {G1 : α → Prop} {G2 : β → Prop} (hc : P.cellsOf e = d1.sz) (h1 : Opn P W e d1 G1) (h2 : OpAt P W fs (off + d1.sz) d2 G2) :
    OpAt P W ((e, off) :: fs) off (Kd.pair d1 d2) (fun y => G1 y.1 ∧ G2 y.2) := by
  intro H enc base spare held n cs hl hf
  have hl' : cs.length = off + (d1.sz + d2.sz) := hl
  obtain ⟨x, hx⟩ := hf (e, off) List.mem_cons_self
  dsimp only at hx
  rw [hc] at hx
  obtain ⟨y1, hk1, hg1⟩ := h1 hx
  obtain ⟨y2, hk2, hg2⟩ := h2 (cs := cs) (by omega) (fun f hf' => hf f (List.mem_cons_of_mem _ hf'))
  refine ⟨(y1, y2), ⟨(cs.drop off).take d1.sz, cs.drop (off + d1.sz), ?_, hk1, hk2⟩, hg1, hg2⟩
  rw [← List.drop_drop, List.take_append_drop]
theorem op_struct {fs : Array Field} {L : List (TypeId × Nat)} {α β : Type} {d : Kd α} {f : β → α} {g : α → β} {G : α → Prop} (ht : P.underlying t = some (.struct fs)) (hL : fs.toList.map (fun f => (f.type, f.offset)) = L) (hc : P.cellsOf t = d.sz) (hfg : ∀ y, f (g y) = y)
    (h : OpAt P W L 0 d G) : Opn P W t (Kd.iso d f) (fun x => G (f x)) := by
  intro H enc base spare held n cs x hx
  obtain ⟨xs, m, _, _, hl, hxl, hf⟩ := DataW.trod_struct ht hx
  obtain ⟨y, hk, hg⟩ := h (cs := cs) (n := m) (enc := enc) (base := base) (spare := spare) (held := held) (by rw [hl, hc]; omega) (fun q hq => by
    rw [← hL] at hq
    obtain ⟨fd, hfd, rfl⟩ := List.mem_map.1 hq
    obtain ⟨i, hi⟩ := List.getElem?_of_mem hfd
    rw [Array.getElem?_toList] at hi
    have hlt : i < xs.length := by
      have := (Array.getElem?_eq_some_iff.1 hi).1
      omega
    exact ⟨xs[i], by rw [hf i fd hi]; exact List.getElem?_eq_getElem hlt⟩)
  rw [List.drop_zero] at hk
  refine ⟨g y, ?_, ?_⟩
  · show d.K W (f (g y)) cs
    rw [hfg]; exact hk
  · show G (f (g y))
    rw [hfg]; exact hg
theorem op_struct0 {fs : Array Field} {L : List (TypeId × Nat)} {α : Type} {d : Kd α} {G : α → Prop} (ht : P.underlying t = some (.struct fs)) (hL : fs.toList.map (fun f => (f.type, f.offset)) = L) (hc : P.cellsOf t = d.sz)
    (h : OpAt P W L 0 d G) : Opn P W t d G := by
  intro H enc base spare held n cs x hx
  exact op_struct (d := d) (f := fun y : α => y) (g := fun y => y) ht hL hc (fun _ => rfl) h hx
end
theorem agg_of_cells {v : Value} {l : List Value} (h : v.cells.toList = l) (hl : 2 ≤ l.length) : v = .agg l.toArray := by
  cases v <;> simp only [Value.cells] at h
  case agg cs => subst h; simp
  all_goals (subst h; simp at hl)
end Go.Proofs.Ytleegjkloclolaa.RO
end
