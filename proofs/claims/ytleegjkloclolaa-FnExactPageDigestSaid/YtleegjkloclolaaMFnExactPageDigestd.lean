/- For the law FnExactPageDigest: what it needs of the words, of the printed functions and of the plain laws, in few texts (laid by merge.py of this workplace). -/
import Derived.Test.YtleegjkloclolaaMFnExactPageDigestc
import Derived.Laws.BitsLemmas
import Derived.Deep.Slices
import Derived.ChangeArms
import Derived.DataReads
section
namespace Go.Proofs.Ytleegjkloclolaa.PA
open Go.RowKit Go.Proofs.YtleegjkloclolaaW.PrintWords Go.Proofs.YtleegjkloclolaaW.PrintLast Go.Proofs.YtleegjkloclolaaW.PrintMore
attribute [local go_sem] max2_int min2_int max_two min_two max_three min_three max_four min_four   -- for this text's walks alone
set_option linter.unusedVariables false
set_option linter.unusedSimpArgs false
def laws_FnExactPageDigest.j0 : Nat → Bool → List ByteArray → List ByteArray → List ByteArray → Int → List ByteArray → List ByteArray → List ByteArray → Int → Option (Bool)
 | 0, _, _, _, _, _, _, _, _, _ => none
 | k + 1, x34, x749000, x749001, x749002, x749003, x773000, x773001, x773002, x773003 => if x34 = true then (some false) else ((laws_toShown.f k x749000 x749001 x749002 x749003).bind fun bt775 => ((laws_eqShown.f k x773000 x773001 x773002 x773003 bt775.1 bt775.2.1 bt775.2.2.1 bt775.2.2.2).bind fun t785 => (if t785 = true then (some true) else (some false))))
def laws_FnExactPageDigest.f (k : Nat) (l0_0 : List ByteArray) (l0_1 : List ByteArray) (l0_2 : List ByteArray) (a0_3 : Int) : Option (Bool) := (laws_szShown.f k l0_0 l0_1 l0_2 a0_3 1048576).bind fun t749 => (if t749 < 0 then (some true) else ((laws_toShown.f k l0_0 l0_1 l0_2 a0_3).bind fun bt750 => ((spec_PageDigest.f k bt750.1 bt750.2.1 bt750.2.2.1 bt750.2.2.2).bind fun bt760 => ((laws_toShown.f k l0_0 l0_1 l0_2 a0_3).bind fun bt762 => ((impl_PageDigest.f k bt762.1 bt762.2.1 bt762.2.2.1 bt762.2.2.2).bind fun bt773 => (if bt773.1.toList = bt760.1.toList then (laws_FnExactPageDigest.j0 k (bt773.2 != bt760.2) l0_0 l0_1 l0_2 a0_3 bt762.1 bt762.2.1 bt762.2.2.1 bt762.2.2.2) else (laws_FnExactPageDigest.j0 k true l0_0 l0_1 l0_2 a0_3 bt762.1 bt762.2.1 bt762.2.2.1 bt762.2.2.2)))))))
set_option maxHeartbeats 8000000 in
set_option maxRecDepth 100000 in
theorem laws_FnExactPageDigest.calls (k : Nat) (A0_0 : Option Addr) (c0_0 : Nat) (l0_0 : List ByteArray) (A0_1 : Option Addr) (c0_1 : Nat) (l0_1 : List ByteArray) (A0_2 : Option Addr) (c0_2 : Nat) (l0_2 : List ByteArray) (a0_3 : Int) (r : Bool) (w : World) (hr0_0 : Kd.C Kd.string w A0_0 l0_0.length l0_0) (hc0_0 : l0_0.length ≤ c0_0) (hr0_1 : Kd.C Kd.string w A0_1 l0_1.length l0_1) (hc0_1 : l0_1.length ≤ c0_1) (hr0_2 : Kd.C Kd.string w A0_2 l0_2.length l0_2) (hc0_2 : l0_2.length ≤ c0_2) (h : laws_FnExactPageDigest.f k l0_0 l0_1 l0_2 a0_3 = some r) :
  Calls Try.prog 10 #[.agg #[.slice A0_0 l0_0.length c0_0, .slice A0_1 l0_1.length c0_1, .slice A0_2 l0_2.length c0_2, .int .i64 a0_3]] w fun e w' => e = .returned (.bool r) ∧ Below w.heap.size w w' := by
 have hu29 := Try.underlying29
 have hu33 := Try.underlying33
 have HR0_0 := Aside0.mk hr0_0
 have HC0_0 := Aside0.mk hc0_0
 clear hr0_0 hc0_0
 have HR0_1 := Aside0.mk hr0_1
 have HC0_1 := Aside0.mk hc0_1
 clear hr0_1 hc0_1
 have HR0_2 := Aside0.mk hr0_2
 have HC0_2 := Aside0.mk hc0_2
 clear hr0_2 hc0_2
 have HB := Aside0.mk (Below.refl w.heap.size w)
 have H : ((laws_szShown.f k l0_0 l0_1 l0_2 a0_3 1048576).bind fun t749 => (if t749 < 0 then (some true) else ((laws_toShown.f k l0_0 l0_1 l0_2 a0_3).bind fun bt750 => ((spec_PageDigest.f k bt750.1 bt750.2.1 bt750.2.2.1 bt750.2.2.2).bind fun bt760 => ((laws_toShown.f k l0_0 l0_1 l0_2 a0_3).bind fun bt762 => ((impl_PageDigest.f k bt762.1 bt762.2.1 bt762.2.2.1 bt762.2.2.2).bind fun bt773 => (if bt773.1.toList = bt760.1.toList then (laws_FnExactPageDigest.j0 k (bt773.2 != bt760.2) l0_0 l0_1 l0_2 a0_3 bt762.1 bt762.2.1 bt762.2.2.1 bt762.2.2.2) else (laws_FnExactPageDigest.j0 k true l0_0 l0_1 l0_2 a0_3 bt762.1 bt762.2.1 bt762.2.2.1 bt762.2.2.2)))))))) = some r := h
 clear h
 replace H := Option.bind_eq_some_iff.mp H
 obtain ⟨t749, A20, H⟩ := H
 replace H : (if t749 < 0 then (some true) else ((laws_toShown.f k l0_0 l0_1 l0_2 a0_3).bind fun bt750 => ((spec_PageDigest.f k bt750.1 bt750.2.1 bt750.2.2.1 bt750.2.2.2).bind fun bt760 => ((laws_toShown.f k l0_0 l0_1 l0_2 a0_3).bind fun bt762 => ((impl_PageDigest.f k bt762.1 bt762.2.1 bt762.2.2.1 bt762.2.2.2).bind fun bt773 => (if bt773.1.toList = bt760.1.toList then (laws_FnExactPageDigest.j0 k (bt773.2 != bt760.2) l0_0 l0_1 l0_2 a0_3 bt762.1 bt762.2.1 bt762.2.2.1 bt762.2.2.2) else (laws_FnExactPageDigest.j0 k true l0_0 l0_1 l0_2 a0_3 bt762.1 bt762.2.1 bt762.2.2.1 bt762.2.2.2))))))) = some r := H
 have A2 := Aside0.mk A20
 clear A20
 by_cases c3 : t749 < 0
 ·rw [if_pos c3] at H
  have c3b0 : decide (t749 < 0) = true := decide_eq_true c3
  clear c3
  obtain rfl := Option.some.inj H
  go_enter Try.func10, Try.ntmps10
  go_wp2_with (first | ((with_reducible refine gate_dst (N := 1) rfl ?_); refine box_event ?hg (N := 1) ?hd (cs := #[.slice A0_0 l0_0.length c0_0, .slice A0_1 l0_1.length c0_1, .slice A0_2 l0_2.length c0_2, .int .i64 a0_3]) (t := 29) ?hr ?_; (case hd => rfl); (case hg => rfl); (case hr => first | (go_simp; done) | (go_simp; rfl)); intro gb748 hg w4 hbox hb; have n0_ := Aside0.mk (below_step (by repeat (first | (with_reducible first | exact HB.out | apply below_alloc | apply pw_below_drewN | apply below_drew1) | exact HB.out)) hb); have n1_ := Aside0.mk (hbox); have n2_ := Aside0.mk ((by rw [hg]; exact (below_size (by repeat (first | (with_reducible first | exact HB.out | apply below_alloc | apply pw_below_drewN | apply below_drew1) | exact HB.out))) : w.heap.size ≤ gb748)); have n3_ := Aside0.mk ((by rw [hg]; exact (below_size (by repeat (first | (with_reducible first | exact HB.out | apply below_alloc | apply pw_below_drewN | apply below_drew1) | exact HB.out))) : w.heap.size ≤ gb748)); clear HB; have HB := n0_; have BK748 := n1_; have GW748 := n2_; have GE748 := n3_; clear n0_ n1_ n2_ n3_; clear hb hbox hg; have hcz5_0 : w4.cell? ⟨gb748, 0, none⟩ = some (.slice A0_0 l0_0.length c0_0) := (blk_cell BK748.out 0).trans rfl; have hcz5_1 : w4.cell? ⟨gb748, 1, none⟩ = some (.slice A0_1 l0_1.length c0_1) := (blk_cell BK748.out 1).trans rfl; have hcz5_2 : w4.cell? ⟨gb748, 2, none⟩ = some (.slice A0_2 l0_2.length c0_2) := (blk_cell BK748.out 2).trans rfl; have hcz5_3 : w4.cell? ⟨gb748, 3, none⟩ = some (.int .i64 a0_3) := (blk_cell BK748.out 3).trans rfl; have hfz5_0 := blk_frozen BK748.out 0; have hfz5_1 := blk_frozen BK748.out 1; have hfz5_2 := blk_frozen BK748.out 2; have hfz5_3 := blk_frozen BK748.out 3) | ((with_reducible refine gate_callee (f := 20) rfl ?_); refine goesL_ (some 11) rfl rfl Try.func20 (by kernel_rfl) rfl #[.agg #[.slice A0_0 l0_0.length c0_0, .slice A0_1 l0_1.length c0_1, .slice A0_2 l0_2.length c0_2, .int .i64 a0_3], .int .i64 1048576] rfl (by (try simp only [List.map_toArray, List.map_cons, List.map_nil]); first | done | rfl | (simp only [List.length_drop, List.length_take]; rfl)) ?_; (with_reducible refine (laws_szShown.calls k _ _ l0_0 _ _ l0_1 _ _ l0_2 a0_3 1048576 t749 _ ?side1 ?side2 ?side3 ?side4 ?side5 ?side6 A2.out).mono ?_); (case side1 => repeat (first | exact (Kd.C_below HR0_0.out HB.out) | (with_reducible refine Kd.C_alloc ?_ _) | (with_reducible refine Kd.C_drewN ?_ _) | (with_reducible refine Kd.C_drew ?_))); (case side2 => exact HC0_0.out); (case side3 => repeat (first | exact (Kd.C_below HR0_1.out HB.out) | (with_reducible refine Kd.C_alloc ?_ _) | (with_reducible refine Kd.C_drewN ?_ _) | (with_reducible refine Kd.C_drew ?_))); (case side4 => exact HC0_1.out); (case side5 => repeat (first | exact (Kd.C_below HR0_2.out HB.out) | (with_reducible refine Kd.C_alloc ?_ _) | (with_reducible refine Kd.C_drewN ?_ _) | (with_reducible refine Kd.C_drew ?_))); (case side6 => exact HC0_2.out); rintro e w6 ⟨rfl, hb⟩; refine ⟨_, rfl, ?_⟩; have n0_ := Aside0.mk (blk_below (g := gb748) (o := .cells #[.slice A0_0 l0_0.length c0_0, .slice A0_1 l0_1.length c0_1, .slice A0_2 l0_2.length c0_2, .int .i64 a0_3] 29 (0, 0)) (by (with_reducible repeat (first | refine blk_drewN ?_ _ | refine blk_drew ?_ | refine blk_alloc ?_ _)); exact BK748.out) hb); have n1_ := Aside0.mk (below_step (by repeat (first | (with_reducible first | exact HB.out | apply below_alloc | apply pw_below_drewN | apply below_drew1 | refine below_set ?_ GE748.out) | exact HB.out)) hb); clear BK748; clear HB; have BK748 := n0_; have HB := n1_; clear n0_ n1_; (try clear hb); (try clear hb2); (try clear hk); (try clear hi)))
  go_ret
  exact ⟨by first | rfl | (simp [errW_none, errW_some] <;> rfl) | (simp [*, errW_none, errW_some] <;> rfl), by repeat (first | (with_reducible first | exact HB.out | apply below_alloc | apply pw_below_drewN | apply below_drew1 | refine below_set ?_ GE748.out) | exact HB.out)⟩
 ·rw [if_neg c3] at H
  have c3b0 : decide (t749 < 0) = false := decide_eq_false c3
  clear c3
  replace H := Option.bind_eq_some_iff.mp H
  obtain ⟨⟨t750, t753, t756, t759⟩, A70, H⟩ := H
  replace H : ((spec_PageDigest.f k t750 t753 t756 t759).bind fun bt760 => ((laws_toShown.f k l0_0 l0_1 l0_2 a0_3).bind fun bt762 => ((impl_PageDigest.f k bt762.1 bt762.2.1 bt762.2.2.1 bt762.2.2.2).bind fun bt773 => (if bt773.1.toList = bt760.1.toList then (laws_FnExactPageDigest.j0 k (bt773.2 != bt760.2) l0_0 l0_1 l0_2 a0_3 bt762.1 bt762.2.1 bt762.2.2.1 bt762.2.2.2) else (laws_FnExactPageDigest.j0 k true l0_0 l0_1 l0_2 a0_3 bt762.1 bt762.2.1 bt762.2.2.1 bt762.2.2.2))))) = some r := H
  have A7 := Aside0.mk A70
  clear A70
  replace H := Option.bind_eq_some_iff.mp H
  obtain ⟨⟨t760, t761⟩, A80, H⟩ := H
  replace H : ((laws_toShown.f k l0_0 l0_1 l0_2 a0_3).bind fun bt762 => ((impl_PageDigest.f k bt762.1 bt762.2.1 bt762.2.2.1 bt762.2.2.2).bind fun bt773 => (if bt773.1.toList = t760.toList then (laws_FnExactPageDigest.j0 k (bt773.2 != t761) l0_0 l0_1 l0_2 a0_3 bt762.1 bt762.2.1 bt762.2.2.1 bt762.2.2.2) else (laws_FnExactPageDigest.j0 k true l0_0 l0_1 l0_2 a0_3 bt762.1 bt762.2.1 bt762.2.2.1 bt762.2.2.2)))) = some r := H
  have A8 := Aside0.mk A80
  clear A80
  replace H := Option.bind_eq_some_iff.mp H
  obtain ⟨⟨t762, t765, t768, t771⟩, A90, H⟩ := H
  replace H : ((impl_PageDigest.f k t762 t765 t768 t771).bind fun bt773 => (if bt773.1.toList = t760.toList then (laws_FnExactPageDigest.j0 k (bt773.2 != t761) l0_0 l0_1 l0_2 a0_3 t762 t765 t768 t771) else (laws_FnExactPageDigest.j0 k true l0_0 l0_1 l0_2 a0_3 t762 t765 t768 t771))) = some r := H
  have A9 := Aside0.mk A90
  clear A90
  replace H := Option.bind_eq_some_iff.mp H
  obtain ⟨⟨t773, t774⟩, A100, H⟩ := H
  replace H : (if t773.toList = t760.toList then (laws_FnExactPageDigest.j0 k (t774 != t761) l0_0 l0_1 l0_2 a0_3 t762 t765 t768 t771) else (laws_FnExactPageDigest.j0 k true l0_0 l0_1 l0_2 a0_3 t762 t765 t768 t771)) = some r := H
  have A10 := Aside0.mk A100
  clear A100
  have HC11 := Aside0.mk H
  clear H
  go_enter Try.func10, Try.ntmps10
  go_upto_region 8 with (first | ((with_reducible refine gate_dst (N := 1) rfl ?_); refine box_event ?hg (N := 1) ?hd (cs := #[.slice A0_0 l0_0.length c0_0, .slice A0_1 l0_1.length c0_1, .slice A0_2 l0_2.length c0_2, .int .i64 a0_3]) (t := 29) ?hr ?_; (case hd => rfl); (case hg => rfl); (case hr => first | (go_simp; done) | (go_simp; rfl)); intro gb748 hg w12 hbox hb; have n0_ := Aside0.mk (below_step (by repeat (first | (with_reducible first | exact HB.out | apply below_alloc | apply pw_below_drewN | apply below_drew1) | exact HB.out)) hb); have n1_ := Aside0.mk (hbox); have n2_ := Aside0.mk ((by rw [hg]; exact (below_size (by repeat (first | (with_reducible first | exact HB.out | apply below_alloc | apply pw_below_drewN | apply below_drew1) | exact HB.out))) : w.heap.size ≤ gb748)); have n3_ := Aside0.mk ((by rw [hg]; exact (below_size (by repeat (first | (with_reducible first | exact HB.out | apply below_alloc | apply pw_below_drewN | apply below_drew1) | exact HB.out))) : w.heap.size ≤ gb748)); clear HB; have HB := n0_; have BK748 := n1_; have GW748 := n2_; have GE748 := n3_; clear n0_ n1_ n2_ n3_; clear hb hbox hg; have hcz13_0 : w12.cell? ⟨gb748, 0, none⟩ = some (.slice A0_0 l0_0.length c0_0) := (blk_cell BK748.out 0).trans rfl; have hcz13_1 : w12.cell? ⟨gb748, 1, none⟩ = some (.slice A0_1 l0_1.length c0_1) := (blk_cell BK748.out 1).trans rfl; have hcz13_2 : w12.cell? ⟨gb748, 2, none⟩ = some (.slice A0_2 l0_2.length c0_2) := (blk_cell BK748.out 2).trans rfl; have hcz13_3 : w12.cell? ⟨gb748, 3, none⟩ = some (.int .i64 a0_3) := (blk_cell BK748.out 3).trans rfl; have hfz13_0 := blk_frozen BK748.out 0; have hfz13_1 := blk_frozen BK748.out 1; have hfz13_2 := blk_frozen BK748.out 2; have hfz13_3 := blk_frozen BK748.out 3) | ((with_reducible refine gate_callee (f := 20) rfl ?_); refine goesL_ (some 11) rfl rfl Try.func20 (by kernel_rfl) rfl #[.agg #[.slice A0_0 l0_0.length c0_0, .slice A0_1 l0_1.length c0_1, .slice A0_2 l0_2.length c0_2, .int .i64 a0_3], .int .i64 1048576] rfl (by (try simp only [List.map_toArray, List.map_cons, List.map_nil]); first | done | rfl | (simp only [List.length_drop, List.length_take]; rfl)) ?_; (with_reducible refine (laws_szShown.calls k _ _ l0_0 _ _ l0_1 _ _ l0_2 a0_3 1048576 t749 _ ?side1 ?side2 ?side3 ?side4 ?side5 ?side6 A2.out).mono ?_); (case side1 => repeat (first | exact (Kd.C_below HR0_0.out HB.out) | (with_reducible refine Kd.C_alloc ?_ _) | (with_reducible refine Kd.C_drewN ?_ _) | (with_reducible refine Kd.C_drew ?_))); (case side2 => exact HC0_0.out); (case side3 => repeat (first | exact (Kd.C_below HR0_1.out HB.out) | (with_reducible refine Kd.C_alloc ?_ _) | (with_reducible refine Kd.C_drewN ?_ _) | (with_reducible refine Kd.C_drew ?_))); (case side4 => exact HC0_1.out); (case side5 => repeat (first | exact (Kd.C_below HR0_2.out HB.out) | (with_reducible refine Kd.C_alloc ?_ _) | (with_reducible refine Kd.C_drewN ?_ _) | (with_reducible refine Kd.C_drew ?_))); (case side6 => exact HC0_2.out); rintro e w14 ⟨rfl, hb⟩; refine ⟨_, rfl, ?_⟩; have n0_ := Aside0.mk (blk_below (g := gb748) (o := .cells #[.slice A0_0 l0_0.length c0_0, .slice A0_1 l0_1.length c0_1, .slice A0_2 l0_2.length c0_2, .int .i64 a0_3] 29 (0, 0)) (by (with_reducible repeat (first | refine blk_drewN ?_ _ | refine blk_drew ?_ | refine blk_alloc ?_ _)); exact BK748.out) hb); have n1_ := Aside0.mk (below_step (by repeat (first | (with_reducible first | exact HB.out | apply below_alloc | apply pw_below_drewN | apply below_drew1 | refine below_set ?_ GE748.out) | exact HB.out)) hb); clear BK748; clear HB; have BK748 := n0_; have HB := n1_; clear n0_ n1_; (try clear hb); (try clear hb2); (try clear hk); (try clear hi); have hcz15_0 : w14.cell? ⟨gb748, 0, none⟩ = some (.slice A0_0 l0_0.length c0_0) := (blk_cell BK748.out 0).trans rfl; have hcz15_1 : w14.cell? ⟨gb748, 1, none⟩ = some (.slice A0_1 l0_1.length c0_1) := (blk_cell BK748.out 1).trans rfl; have hcz15_2 : w14.cell? ⟨gb748, 2, none⟩ = some (.slice A0_2 l0_2.length c0_2) := (blk_cell BK748.out 2).trans rfl; have hcz15_3 : w14.cell? ⟨gb748, 3, none⟩ = some (.int .i64 a0_3) := (blk_cell BK748.out 3).trans rfl; have hfz15_0 := blk_frozen BK748.out 0; have hfz15_1 := blk_frozen BK748.out 1; have hfz15_2 := blk_frozen BK748.out 2; have hfz15_3 := blk_frozen BK748.out 3) | ((with_reducible refine gate_callee (f := 22) rfl ?_); refine goesL_ (some 16) rfl rfl Try.func22 (by kernel_rfl) rfl #[.agg #[.slice A0_0 l0_0.length c0_0, .slice A0_1 l0_1.length c0_1, .slice A0_2 l0_2.length c0_2, .int .i64 a0_3]] rfl (by (try simp only [List.map_toArray, List.map_cons, List.map_nil]); first | done | rfl | (simp only [List.length_drop, List.length_take]; rfl)) ?_; (with_reducible refine (laws_toShown.calls k _ _ l0_0 _ _ l0_1 _ _ l0_2 a0_3 t750 t753 t756 t759 _ ?side1 ?side2 ?side3 ?side4 ?side5 ?side6 A7.out).mono ?_); (case side1 => repeat (first | exact (Kd.C_below HR0_0.out HB.out) | (with_reducible refine Kd.C_alloc ?_ _) | (with_reducible refine Kd.C_drewN ?_ _) | (with_reducible refine Kd.C_drew ?_))); (case side2 => exact HC0_0.out); (case side3 => repeat (first | exact (Kd.C_below HR0_1.out HB.out) | (with_reducible refine Kd.C_alloc ?_ _) | (with_reducible refine Kd.C_drewN ?_ _) | (with_reducible refine Kd.C_drew ?_))); (case side4 => exact HC0_1.out); (case side5 => repeat (first | exact (Kd.C_below HR0_2.out HB.out) | (with_reducible refine Kd.C_alloc ?_ _) | (with_reducible refine Kd.C_drewN ?_ _) | (with_reducible refine Kd.C_drew ?_))); (case side6 => exact HC0_2.out); rintro e w16 ⟨v751, v754, v757, rfl, ho0, ho1, ho2, hb⟩; refine ⟨_, rfl, ?_⟩; have n0_ := Aside0.mk (Kd.R_lower ho0 (below_size (by repeat (first | (with_reducible first | exact HB.out | apply below_alloc | apply pw_below_drewN | apply below_drew1 | refine below_set ?_ GE748.out) | exact HB.out)))); have n1_ := Aside0.mk (Kd.R_lower ho1 (below_size (by repeat (first | (with_reducible first | exact HB.out | apply below_alloc | apply pw_below_drewN | apply below_drew1 | refine below_set ?_ GE748.out) | exact HB.out)))); have n2_ := Aside0.mk (Kd.R_lower ho2 (below_size (by repeat (first | (with_reducible first | exact HB.out | apply below_alloc | apply pw_below_drewN | apply below_drew1 | refine below_set ?_ GE748.out) | exact HB.out)))); have n3_ := Aside0.mk (blk_below (g := gb748) (o := .cells #[.slice A0_0 l0_0.length c0_0, .slice A0_1 l0_1.length c0_1, .slice A0_2 l0_2.length c0_2, .int .i64 a0_3] 29 (0, 0)) (by (with_reducible repeat (first | refine blk_drewN ?_ _ | refine blk_drew ?_ | refine blk_alloc ?_ _)); exact BK748.out) hb); have n4_ := Aside0.mk (below_step (by repeat (first | (with_reducible first | exact HB.out | apply below_alloc | apply pw_below_drewN | apply below_drew1 | refine below_set ?_ GE748.out) | exact HB.out)) hb); clear BK748; clear HB; have HO752 := n0_; have HO755 := n1_; have HO758 := n2_; have BK748 := n3_; have HB := n4_; clear n0_ n1_ n2_ n3_ n4_; (try clear hb); (try clear hb2); (try clear hk); (try clear hi); (try clear ho0); (try clear ho1); (try clear ho2); obtain ⟨Ao17, co17, eo17⟩ := Kd.R_slice HO752.out; subst eo17; obtain ⟨Ao18, co18, eo18⟩ := Kd.R_slice HO755.out; subst eo18; obtain ⟨Ao19, co19, eo19⟩ := Kd.R_slice HO758.out; subst eo19) | ((with_reducible refine gate_callee (f := 50) rfl ?_); refine goesL_ (some 17) rfl rfl Try.func50 (by kernel_rfl) rfl #[.agg #[.slice Ao17 t750.length co17, .slice Ao18 t753.length co18, .slice Ao19 t756.length co19, .int .i64 t759]] rfl (by (try simp only [List.map_toArray, List.map_cons, List.map_nil]); first | done | rfl | (simp only [List.length_drop, List.length_take]; rfl)) ?_; (with_reducible refine (spec_PageDigest.calls k _ _ t750 _ _ t753 _ _ t756 t759 t760 t761 _ ?side1 ?side2 ?side3 ?side4 ?side5 ?side6 A8.out).mono ?_); (case side1 => repeat (first | exact (Kd.R_reads' HO752.out).2.2 | (with_reducible refine Kd.C_alloc ?_ _) | (with_reducible refine Kd.C_drewN ?_ _) | (with_reducible refine Kd.C_drew ?_))); (case side2 => exact (Kd.R_reads' HO752.out).2.1); (case side3 => repeat (first | exact (Kd.R_reads' HO755.out).2.2 | (with_reducible refine Kd.C_alloc ?_ _) | (with_reducible refine Kd.C_drewN ?_ _) | (with_reducible refine Kd.C_drew ?_))); (case side4 => exact (Kd.R_reads' HO755.out).2.1); (case side5 => repeat (first | exact (Kd.R_reads' HO758.out).2.2 | (with_reducible refine Kd.C_alloc ?_ _) | (with_reducible refine Kd.C_drewN ?_ _) | (with_reducible refine Kd.C_drew ?_))); (case side6 => exact (Kd.R_reads' HO758.out).2.1); rintro e w20 ⟨rfl, hb⟩; refine ⟨_, rfl, ?_⟩; have n0_ := Aside0.mk (Kd.R_below (by (with_reducible repeat (first | apply Kd.R_alloc | apply Kd.R_drewN | apply Kd.R_drew)); exact HO752.out) hb); have n1_ := Aside0.mk (Kd.R_below (by (with_reducible repeat (first | apply Kd.R_alloc | apply Kd.R_drewN | apply Kd.R_drew)); exact HO755.out) hb); have n2_ := Aside0.mk (Kd.R_below (by (with_reducible repeat (first | apply Kd.R_alloc | apply Kd.R_drewN | apply Kd.R_drew)); exact HO758.out) hb); have n3_ := Aside0.mk (blk_below (g := gb748) (o := .cells #[.slice A0_0 l0_0.length c0_0, .slice A0_1 l0_1.length c0_1, .slice A0_2 l0_2.length c0_2, .int .i64 a0_3] 29 (0, 0)) (by (with_reducible repeat (first | refine blk_drewN ?_ _ | refine blk_drew ?_ | refine blk_alloc ?_ _)); exact BK748.out) hb); have n4_ := Aside0.mk (below_step (by repeat (first | (with_reducible first | exact HB.out | apply below_alloc | apply pw_below_drewN | apply below_drew1 | refine below_set ?_ GE748.out) | exact HB.out)) hb); clear HO752; clear HO755; clear HO758; clear BK748; clear HB; have HO752 := n0_; have HO755 := n1_; have HO758 := n2_; have BK748 := n3_; have HB := n4_; clear n0_ n1_ n2_ n3_ n4_; (try clear hb); (try clear hb2); (try clear hk); (try clear hi); have hcz21_0 : w20.cell? ⟨gb748, 0, none⟩ = some (.slice A0_0 l0_0.length c0_0) := (blk_cell BK748.out 0).trans rfl; have hcz21_1 : w20.cell? ⟨gb748, 1, none⟩ = some (.slice A0_1 l0_1.length c0_1) := (blk_cell BK748.out 1).trans rfl; have hcz21_2 : w20.cell? ⟨gb748, 2, none⟩ = some (.slice A0_2 l0_2.length c0_2) := (blk_cell BK748.out 2).trans rfl; have hcz21_3 : w20.cell? ⟨gb748, 3, none⟩ = some (.int .i64 a0_3) := (blk_cell BK748.out 3).trans rfl; have hfz21_0 := blk_frozen BK748.out 0; have hfz21_1 := blk_frozen BK748.out 1; have hfz21_2 := blk_frozen BK748.out 2; have hfz21_3 := blk_frozen BK748.out 3) | ((with_reducible refine gate_callee (f := 22) rfl ?_); refine goesL_ (some 21) rfl rfl Try.func22 (by kernel_rfl) rfl #[.agg #[.slice A0_0 l0_0.length c0_0, .slice A0_1 l0_1.length c0_1, .slice A0_2 l0_2.length c0_2, .int .i64 a0_3]] rfl (by (try simp only [List.map_toArray, List.map_cons, List.map_nil]); first | done | rfl | (simp only [List.length_drop, List.length_take]; rfl)) ?_; (with_reducible refine (laws_toShown.calls k _ _ l0_0 _ _ l0_1 _ _ l0_2 a0_3 t762 t765 t768 t771 _ ?side1 ?side2 ?side3 ?side4 ?side5 ?side6 A9.out).mono ?_); (case side1 => repeat (first | exact (Kd.C_below HR0_0.out HB.out) | (with_reducible refine Kd.C_alloc ?_ _) | (with_reducible refine Kd.C_drewN ?_ _) | (with_reducible refine Kd.C_drew ?_))); (case side2 => exact HC0_0.out); (case side3 => repeat (first | exact (Kd.C_below HR0_1.out HB.out) | (with_reducible refine Kd.C_alloc ?_ _) | (with_reducible refine Kd.C_drewN ?_ _) | (with_reducible refine Kd.C_drew ?_))); (case side4 => exact HC0_1.out); (case side5 => repeat (first | exact (Kd.C_below HR0_2.out HB.out) | (with_reducible refine Kd.C_alloc ?_ _) | (with_reducible refine Kd.C_drewN ?_ _) | (with_reducible refine Kd.C_drew ?_))); (case side6 => exact HC0_2.out); rintro e w22 ⟨v763, v766, v769, rfl, ho0, ho1, ho2, hb⟩; refine ⟨_, rfl, ?_⟩; have n0_ := Aside0.mk (Kd.R_mono (Kd.R_told (Kd.R_told (Kd.R_told (Kd.R_old (by (with_reducible repeat (first | apply Kd.R_alloc | apply Kd.R_drewN | apply Kd.R_drew)); exact HO752.out) hb) (Kd.R_base ho0)) (Kd.R_base ho1)) (Kd.R_base ho2)) (fun _ h_ => h_.1)); have n1_ := Aside0.mk (Kd.R_mono (Kd.R_told (Kd.R_told (Kd.R_told (Kd.R_old (by (with_reducible repeat (first | apply Kd.R_alloc | apply Kd.R_drewN | apply Kd.R_drew)); exact HO755.out) hb) (Kd.R_base ho0)) (Kd.R_base ho1)) (Kd.R_base ho2)) (fun _ h_ => h_.1)); have n2_ := Aside0.mk (Kd.R_mono (Kd.R_told (Kd.R_told (Kd.R_told (Kd.R_old (by (with_reducible repeat (first | apply Kd.R_alloc | apply Kd.R_drewN | apply Kd.R_drew)); exact HO758.out) hb) (Kd.R_base ho0)) (Kd.R_base ho1)) (Kd.R_base ho2)) (fun _ h_ => h_.1)); have n3_ := Aside0.mk (Kd.R_lower (Kd.R_new' (Kd.R_new' (Kd.R_new' ho0 (Kd.R_lt (by (with_reducible repeat (first | apply Kd.R_alloc | apply Kd.R_drewN | apply Kd.R_drew)); exact HO752.out))) (Kd.R_lt (by (with_reducible repeat (first | apply Kd.R_alloc | apply Kd.R_drewN | apply Kd.R_drew)); exact HO755.out))) (Kd.R_lt (by (with_reducible repeat (first | apply Kd.R_alloc | apply Kd.R_drewN | apply Kd.R_drew)); exact HO758.out))) (below_size (by repeat (first | (with_reducible first | exact HB.out | apply below_alloc | apply pw_below_drewN | apply below_drew1 | refine below_set ?_ GE748.out) | exact HB.out)))); have n4_ := Aside0.mk (Kd.R_lower (Kd.R_new' (Kd.R_new' (Kd.R_new' ho1 (Kd.R_lt (by (with_reducible repeat (first | apply Kd.R_alloc | apply Kd.R_drewN | apply Kd.R_drew)); exact HO752.out))) (Kd.R_lt (by (with_reducible repeat (first | apply Kd.R_alloc | apply Kd.R_drewN | apply Kd.R_drew)); exact HO755.out))) (Kd.R_lt (by (with_reducible repeat (first | apply Kd.R_alloc | apply Kd.R_drewN | apply Kd.R_drew)); exact HO758.out))) (below_size (by repeat (first | (with_reducible first | exact HB.out | apply below_alloc | apply pw_below_drewN | apply below_drew1 | refine below_set ?_ GE748.out) | exact HB.out)))); have n5_ := Aside0.mk (Kd.R_lower (Kd.R_new' (Kd.R_new' (Kd.R_new' ho2 (Kd.R_lt (by (with_reducible repeat (first | apply Kd.R_alloc | apply Kd.R_drewN | apply Kd.R_drew)); exact HO752.out))) (Kd.R_lt (by (with_reducible repeat (first | apply Kd.R_alloc | apply Kd.R_drewN | apply Kd.R_drew)); exact HO755.out))) (Kd.R_lt (by (with_reducible repeat (first | apply Kd.R_alloc | apply Kd.R_drewN | apply Kd.R_drew)); exact HO758.out))) (below_size (by repeat (first | (with_reducible first | exact HB.out | apply below_alloc | apply pw_below_drewN | apply below_drew1 | refine below_set ?_ GE748.out) | exact HB.out)))); have n6_ := Aside0.mk (blk_below (g := gb748) (o := .cells #[.slice A0_0 l0_0.length c0_0, .slice A0_1 l0_1.length c0_1, .slice A0_2 l0_2.length c0_2, .int .i64 a0_3] 29 (0, 0)) (by (with_reducible repeat (first | refine blk_drewN ?_ _ | refine blk_drew ?_ | refine blk_alloc ?_ _)); exact BK748.out) hb); have n7_ := Aside0.mk (below_step (by repeat (first | (with_reducible first | exact HB.out | apply below_alloc | apply pw_below_drewN | apply below_drew1 | refine below_set ?_ GE748.out) | exact HB.out)) hb); clear HO752; clear HO755; clear HO758; clear BK748; clear HB; have HO752 := n0_; have HO755 := n1_; have HO758 := n2_; have HO764 := n3_; have HO767 := n4_; have HO770 := n5_; have BK748 := n6_; have HB := n7_; clear n0_ n1_ n2_ n3_ n4_ n5_ n6_ n7_; (try clear hb); (try clear hb2); (try clear hk); (try clear hi); (try clear ho0); (try clear ho1); (try clear ho2)) | ((with_reducible refine gate_dst (N := 6) rfl ?_); refine box_event ?hg (N := 6) ?hd (cs := #[.slice none 0 0, .slice none 0 0, .slice none 0 0, .int .i64 0]) (t := 33) ?hr ?_; (case hd => rfl); (case hg => rfl); (case hr => first | (go_simp; done) | (go_simp; rfl)); intro gb772 hg w23 hbox hb; have n0_ := Aside0.mk (Kd.R_below (by (with_reducible repeat (first | apply Kd.R_alloc | apply Kd.R_drewN | apply Kd.R_drew)); exact HO752.out) hb); have n1_ := Aside0.mk (Kd.R_below (by (with_reducible repeat (first | apply Kd.R_alloc | apply Kd.R_drewN | apply Kd.R_drew)); exact HO755.out) hb); have n2_ := Aside0.mk (Kd.R_below (by (with_reducible repeat (first | apply Kd.R_alloc | apply Kd.R_drewN | apply Kd.R_drew)); exact HO758.out) hb); have n3_ := Aside0.mk (Kd.R_below (by (with_reducible repeat (first | apply Kd.R_alloc | apply Kd.R_drewN | apply Kd.R_drew)); exact HO764.out) hb); have n4_ := Aside0.mk (Kd.R_below (by (with_reducible repeat (first | apply Kd.R_alloc | apply Kd.R_drewN | apply Kd.R_drew)); exact HO767.out) hb); have n5_ := Aside0.mk (Kd.R_below (by (with_reducible repeat (first | apply Kd.R_alloc | apply Kd.R_drewN | apply Kd.R_drew)); exact HO770.out) hb); have n6_ := Aside0.mk (blk_below (g := gb748) (o := .cells #[.slice A0_0 l0_0.length c0_0, .slice A0_1 l0_1.length c0_1, .slice A0_2 l0_2.length c0_2, .int .i64 a0_3] 29 (0, 0)) (by (with_reducible repeat (first | refine blk_drewN ?_ _ | refine blk_drew ?_ | refine blk_alloc ?_ _)); exact BK748.out) hb); have n7_ := Aside0.mk (below_step (by repeat (first | (with_reducible first | exact HB.out | apply below_alloc | apply pw_below_drewN | apply below_drew1 | refine below_set ?_ GE748.out) | exact HB.out)) hb); have n8_ := Aside0.mk (hbox); have n9_ := Aside0.mk ((by rw [hg]; exact (below_size (by repeat (first | (with_reducible first | exact HB.out | apply below_alloc | apply pw_below_drewN | apply below_drew1 | refine below_set ?_ GE748.out) | exact HB.out))) : w.heap.size ≤ gb772)); have n10_ := Aside0.mk ((by rw [hg]; exact (below_size (by repeat (first | (with_reducible first | exact HB.out | apply below_alloc | apply pw_below_drewN | apply below_drew1 | refine below_set ?_ GE748.out) | exact HB.out))) : w.heap.size ≤ gb772)); have n11_ := Aside0.mk ((by rw [hg]; exact Nat.ne_of_lt (blk_lt (g := gb748) (o := .cells #[.slice A0_0 l0_0.length c0_0, .slice A0_1 l0_1.length c0_1, .slice A0_2 l0_2.length c0_2, .int .i64 a0_3] 29 (0, 0)) (by (with_reducible repeat (first | refine blk_drewN ?_ _ | refine blk_drew ?_ | refine blk_alloc ?_ _)); exact BK748.out)) : gb748 ≠ gb772)); have n12_ := Aside0.mk ((by rw [hg]; exact Nat.ne_of_gt (blk_lt (g := gb748) (o := .cells #[.slice A0_0 l0_0.length c0_0, .slice A0_1 l0_1.length c0_1, .slice A0_2 l0_2.length c0_2, .int .i64 a0_3] 29 (0, 0)) (by (with_reducible repeat (first | refine blk_drewN ?_ _ | refine blk_drew ?_ | refine blk_alloc ?_ _)); exact BK748.out)) : gb772 ≠ gb748)); clear HO752; clear HO755; clear HO758; clear HO764; clear HO767; clear HO770; clear BK748; clear HB; have HO752 := n0_; have HO755 := n1_; have HO758 := n2_; have HO764 := n3_; have HO767 := n4_; have HO770 := n5_; have BK748 := n6_; have HB := n7_; have BK772 := n8_; have GW772 := n9_; have GE772 := n10_; have NB748_772 := n11_; have NB772_748 := n12_; clear n0_ n1_ n2_ n3_ n4_ n5_ n6_ n7_ n8_ n9_ n10_ n11_ n12_; clear hb hbox hg; obtain ⟨Ao24, co24, eo24⟩ := Kd.R_slice HO764.out; subst eo24; have hnb25 := NB772_748.out; have hnc25 := NB748_772.out; have hcz26_0 : w23.cell? ⟨gb772, 0, none⟩ = some (.slice none 0 0) := (blk_cell BK772.out 0).trans rfl; have hcz26_1 : w23.cell? ⟨gb772, 1, none⟩ = some (.slice none 0 0) := (blk_cell BK772.out 1).trans rfl; have hcz26_2 : w23.cell? ⟨gb772, 2, none⟩ = some (.slice none 0 0) := (blk_cell BK772.out 2).trans rfl; have hcz26_3 : w23.cell? ⟨gb772, 3, none⟩ = some (.int .i64 0) := (blk_cell BK772.out 3).trans rfl; have hfz26_0 := blk_frozen BK772.out 0; have hfz26_1 := blk_frozen BK772.out 1; have hfz26_2 := blk_frozen BK772.out 2; have hfz26_3 := blk_frozen BK772.out 3; obtain ⟨Ao27, co27, eo27⟩ := Kd.R_slice HO767.out; subst eo27; obtain ⟨Ao28, co28, eo28⟩ := Kd.R_slice HO770.out; subst eo28) | ((with_reducible refine gate_callee (f := 51) rfl ?_); refine goesL_ (some 24) rfl rfl Try.func51 (by kernel_rfl) rfl #[.agg #[.slice Ao24 t762.length co24, .slice Ao27 t765.length co27, .slice Ao28 t768.length co28, .int .i64 t771]] rfl (by (try simp only [List.map_toArray, List.map_cons, List.map_nil]); first | done | rfl | (simp only [List.length_drop, List.length_take]; rfl)) ?_; (with_reducible refine (impl_PageDigest.calls k _ _ t762 _ _ t765 _ _ t768 t771 t773 t774 _ ?side1 ?side2 ?side3 ?side4 ?side5 ?side6 A10.out).mono ?_); (case side1 => refine (Kd.R_reads' (e := 9) (base := w.heap.size) (ok := fun k_ => ((((some k_ ≠ (.slice Ao27 t765.length co27 : Value).ownBlock ∧ some k_ ≠ (.slice Ao28 t768.length co28 : Value).ownBlock) ∧ some k_ ≠ (.slice Ao17 t750.length co17 : Value).ownBlock) ∧ some k_ ≠ (.slice Ao18 t753.length co18 : Value).ownBlock) ∧ some k_ ≠ (.slice Ao19 t756.length co19 : Value).ownBlock)) (n := t762.length) (c := co24) ?_).2.2; exact (by (with_reducible repeat (first | apply Kd.R_alloc | apply Kd.R_drewN | apply Kd.R_drew)); exact (Kd.R_mono (Kd.R_far (p := ⟨gb772, 3, none⟩) (Kd.R_far (p := ⟨gb772, 2, none⟩) (Kd.R_far (p := ⟨gb772, 1, none⟩) (Kd.R_far (p := ⟨gb772, 0, none⟩) (Kd.R_types HO764.out BK772.out (by decide)) (fun _ hk => hk.2) (.slice Ao24 t762.length co24)) (fun _ hk => hk.2) (.slice Ao27 t765.length co27)) (fun _ hk => hk.2) (.slice Ao28 t768.length co28)) (fun _ hk => hk.2) (.int .i64 t771)) (fun _ h_ => h_.1)))); (case side2 => exact (Kd.R_reads' HO764.out).2.1); (case side3 => refine (Kd.R_reads' (e := 9) (base := w.heap.size) (ok := fun k_ => ((((some k_ ≠ (.slice Ao24 t762.length co24 : Value).ownBlock ∧ some k_ ≠ (.slice Ao28 t768.length co28 : Value).ownBlock) ∧ some k_ ≠ (.slice Ao17 t750.length co17 : Value).ownBlock) ∧ some k_ ≠ (.slice Ao18 t753.length co18 : Value).ownBlock) ∧ some k_ ≠ (.slice Ao19 t756.length co19 : Value).ownBlock)) (n := t765.length) (c := co27) ?_).2.2; exact (by (with_reducible repeat (first | apply Kd.R_alloc | apply Kd.R_drewN | apply Kd.R_drew)); exact (Kd.R_mono (Kd.R_far (p := ⟨gb772, 3, none⟩) (Kd.R_far (p := ⟨gb772, 2, none⟩) (Kd.R_far (p := ⟨gb772, 1, none⟩) (Kd.R_far (p := ⟨gb772, 0, none⟩) (Kd.R_types HO767.out BK772.out (by decide)) (fun _ hk => hk.2) (.slice Ao24 t762.length co24)) (fun _ hk => hk.2) (.slice Ao27 t765.length co27)) (fun _ hk => hk.2) (.slice Ao28 t768.length co28)) (fun _ hk => hk.2) (.int .i64 t771)) (fun _ h_ => h_.1)))); (case side4 => exact (Kd.R_reads' HO767.out).2.1); (case side5 => refine (Kd.R_reads' (e := 9) (base := w.heap.size) (ok := fun k_ => ((((some k_ ≠ (.slice Ao24 t762.length co24 : Value).ownBlock ∧ some k_ ≠ (.slice Ao27 t765.length co27 : Value).ownBlock) ∧ some k_ ≠ (.slice Ao17 t750.length co17 : Value).ownBlock) ∧ some k_ ≠ (.slice Ao18 t753.length co18 : Value).ownBlock) ∧ some k_ ≠ (.slice Ao19 t756.length co19 : Value).ownBlock)) (n := t768.length) (c := co28) ?_).2.2; exact (by (with_reducible repeat (first | apply Kd.R_alloc | apply Kd.R_drewN | apply Kd.R_drew)); exact (Kd.R_mono (Kd.R_far (p := ⟨gb772, 3, none⟩) (Kd.R_far (p := ⟨gb772, 2, none⟩) (Kd.R_far (p := ⟨gb772, 1, none⟩) (Kd.R_far (p := ⟨gb772, 0, none⟩) (Kd.R_types HO770.out BK772.out (by decide)) (fun _ hk => hk.2) (.slice Ao24 t762.length co24)) (fun _ hk => hk.2) (.slice Ao27 t765.length co27)) (fun _ hk => hk.2) (.slice Ao28 t768.length co28)) (fun _ hk => hk.2) (.int .i64 t771)) (fun _ h_ => h_.1)))); (case side6 => exact (Kd.R_reads' HO770.out).2.1); rintro e w29 ⟨rfl, hb⟩; refine ⟨_, rfl, ?_⟩; have n0_ := Aside0.mk (Kd.R_below (by (with_reducible repeat (first | apply Kd.R_alloc | apply Kd.R_drewN | apply Kd.R_drew)); exact (Kd.R_mono (Kd.R_far (p := ⟨gb772, 3, none⟩) (Kd.R_far (p := ⟨gb772, 2, none⟩) (Kd.R_far (p := ⟨gb772, 1, none⟩) (Kd.R_far (p := ⟨gb772, 0, none⟩) (Kd.R_types HO752.out BK772.out (by decide)) (fun _ hk => hk.2) (.slice Ao24 t762.length co24)) (fun _ hk => hk.2) (.slice Ao27 t765.length co27)) (fun _ hk => hk.2) (.slice Ao28 t768.length co28)) (fun _ hk => hk.2) (.int .i64 t771)) (fun _ h_ => h_.1))) hb); have n1_ := Aside0.mk (Kd.R_below (by (with_reducible repeat (first | apply Kd.R_alloc | apply Kd.R_drewN | apply Kd.R_drew)); exact (Kd.R_mono (Kd.R_far (p := ⟨gb772, 3, none⟩) (Kd.R_far (p := ⟨gb772, 2, none⟩) (Kd.R_far (p := ⟨gb772, 1, none⟩) (Kd.R_far (p := ⟨gb772, 0, none⟩) (Kd.R_types HO755.out BK772.out (by decide)) (fun _ hk => hk.2) (.slice Ao24 t762.length co24)) (fun _ hk => hk.2) (.slice Ao27 t765.length co27)) (fun _ hk => hk.2) (.slice Ao28 t768.length co28)) (fun _ hk => hk.2) (.int .i64 t771)) (fun _ h_ => h_.1))) hb); have n2_ := Aside0.mk (Kd.R_below (by (with_reducible repeat (first | apply Kd.R_alloc | apply Kd.R_drewN | apply Kd.R_drew)); exact (Kd.R_mono (Kd.R_far (p := ⟨gb772, 3, none⟩) (Kd.R_far (p := ⟨gb772, 2, none⟩) (Kd.R_far (p := ⟨gb772, 1, none⟩) (Kd.R_far (p := ⟨gb772, 0, none⟩) (Kd.R_types HO758.out BK772.out (by decide)) (fun _ hk => hk.2) (.slice Ao24 t762.length co24)) (fun _ hk => hk.2) (.slice Ao27 t765.length co27)) (fun _ hk => hk.2) (.slice Ao28 t768.length co28)) (fun _ hk => hk.2) (.int .i64 t771)) (fun _ h_ => h_.1))) hb); have n3_ := Aside0.mk (Kd.R_below (by (with_reducible repeat (first | apply Kd.R_alloc | apply Kd.R_drewN | apply Kd.R_drew)); exact (Kd.R_mono (Kd.R_far (p := ⟨gb772, 3, none⟩) (Kd.R_far (p := ⟨gb772, 2, none⟩) (Kd.R_far (p := ⟨gb772, 1, none⟩) (Kd.R_far (p := ⟨gb772, 0, none⟩) (Kd.R_types HO764.out BK772.out (by decide)) (fun _ hk => hk.2) (.slice Ao24 t762.length co24)) (fun _ hk => hk.2) (.slice Ao27 t765.length co27)) (fun _ hk => hk.2) (.slice Ao28 t768.length co28)) (fun _ hk => hk.2) (.int .i64 t771)) (fun _ h_ => h_.1))) hb); have n4_ := Aside0.mk (Kd.R_below (by (with_reducible repeat (first | apply Kd.R_alloc | apply Kd.R_drewN | apply Kd.R_drew)); exact (Kd.R_mono (Kd.R_far (p := ⟨gb772, 3, none⟩) (Kd.R_far (p := ⟨gb772, 2, none⟩) (Kd.R_far (p := ⟨gb772, 1, none⟩) (Kd.R_far (p := ⟨gb772, 0, none⟩) (Kd.R_types HO767.out BK772.out (by decide)) (fun _ hk => hk.2) (.slice Ao24 t762.length co24)) (fun _ hk => hk.2) (.slice Ao27 t765.length co27)) (fun _ hk => hk.2) (.slice Ao28 t768.length co28)) (fun _ hk => hk.2) (.int .i64 t771)) (fun _ h_ => h_.1))) hb); have n5_ := Aside0.mk (Kd.R_below (by (with_reducible repeat (first | apply Kd.R_alloc | apply Kd.R_drewN | apply Kd.R_drew)); exact (Kd.R_mono (Kd.R_far (p := ⟨gb772, 3, none⟩) (Kd.R_far (p := ⟨gb772, 2, none⟩) (Kd.R_far (p := ⟨gb772, 1, none⟩) (Kd.R_far (p := ⟨gb772, 0, none⟩) (Kd.R_types HO770.out BK772.out (by decide)) (fun _ hk => hk.2) (.slice Ao24 t762.length co24)) (fun _ hk => hk.2) (.slice Ao27 t765.length co27)) (fun _ hk => hk.2) (.slice Ao28 t768.length co28)) (fun _ hk => hk.2) (.int .i64 t771)) (fun _ h_ => h_.1))) hb); have n6_ := Aside0.mk (blk_below (g := gb748) (o := .cells #[.slice A0_0 l0_0.length c0_0, .slice A0_1 l0_1.length c0_1, .slice A0_2 l0_2.length c0_2, .int .i64 a0_3] 29 (0, 0)) (by (with_reducible repeat (first | refine blk_drewN ?_ _ | refine blk_drew ?_ | refine blk_alloc ?_ _)); refine blk_far ?_ NB748_772.out _; (with_reducible repeat (first | refine blk_drewN ?_ _ | refine blk_drew ?_ | refine blk_alloc ?_ _)); refine blk_far ?_ NB748_772.out _; (with_reducible repeat (first | refine blk_drewN ?_ _ | refine blk_drew ?_ | refine blk_alloc ?_ _)); refine blk_far ?_ NB748_772.out _; (with_reducible repeat (first | refine blk_drewN ?_ _ | refine blk_drew ?_ | refine blk_alloc ?_ _)); refine blk_far ?_ NB748_772.out _; (with_reducible repeat (first | refine blk_drewN ?_ _ | refine blk_drew ?_ | refine blk_alloc ?_ _)); exact BK748.out) hb); have n7_ := Aside0.mk (blk_below (g := gb772) (o := .cells #[.slice Ao24 t762.length co24, .slice Ao27 t765.length co27, .slice Ao28 t768.length co28, .int .i64 t771] 33 (0, 0)) (by (with_reducible repeat (first | refine blk_drewN ?_ _ | refine blk_drew ?_ | refine blk_alloc ?_ _)); refine blk_put (cs := #[.slice Ao24 t762.length co24, .slice Ao27 t765.length co27, .slice Ao28 t768.length co28, .int .i64 0]) ?_ 3 _ rfl; (with_reducible repeat (first | refine blk_drewN ?_ _ | refine blk_drew ?_ | refine blk_alloc ?_ _)); refine blk_put (cs := #[.slice Ao24 t762.length co24, .slice Ao27 t765.length co27, .slice none 0 0, .int .i64 0]) ?_ 2 _ rfl; (with_reducible repeat (first | refine blk_drewN ?_ _ | refine blk_drew ?_ | refine blk_alloc ?_ _)); refine blk_put (cs := #[.slice Ao24 t762.length co24, .slice none 0 0, .slice none 0 0, .int .i64 0]) ?_ 1 _ rfl; (with_reducible repeat (first | refine blk_drewN ?_ _ | refine blk_drew ?_ | refine blk_alloc ?_ _)); refine blk_put (cs := #[.slice none 0 0, .slice none 0 0, .slice none 0 0, .int .i64 0]) ?_ 0 _ rfl; (with_reducible repeat (first | refine blk_drewN ?_ _ | refine blk_drew ?_ | refine blk_alloc ?_ _)); exact BK772.out) hb); have n8_ := Aside0.mk (below_step (by repeat (first | (with_reducible first | exact HB.out | apply below_alloc | apply pw_below_drewN | apply below_drew1 | refine below_set ?_ GE748.out | refine below_set ?_ GE772.out) | exact HB.out)) hb); clear HO752; clear HO755; clear HO758; clear HO764; clear HO767; clear HO770; clear BK748; clear BK772; clear HB; have HO752 := n0_; have HO755 := n1_; have HO758 := n2_; have HO764 := n3_; have HO767 := n4_; have HO770 := n5_; have BK748 := n6_; have BK772 := n7_; have HB := n8_; clear n0_ n1_ n2_ n3_ n4_ n5_ n6_ n7_ n8_; (try clear hb); (try clear hb2); (try clear hk); (try clear hi)))
  (try simp only [Act.put, List.setIfInBounds_toArray, List.set_cons_zero, List.set_cons_succ])
  go_cut [34] (fun v34 wc => ∃ (kq : Nat) (x34_10 : Bool), v34 = .bool x34_10 ∧ Aside0 (laws_FnExactPageDigest.j0 kq x34_10 l0_0 l0_1 l0_2 a0_3 t762 t765 t768 t771 = some r) ∧ Aside0 (kq ≤ k) ∧ Aside0 (Kd.R Kd.string 9 wc w.heap.size (fun k_ => some k_ ≠ ((.slice Ao27 t765.length co27) : Value).ownBlock ∧ some k_ ≠ ((.slice Ao28 t768.length co28) : Value).ownBlock) (.slice Ao24 t762.length co24) t762) ∧ Aside0 (Kd.R Kd.string 9 wc w.heap.size (fun k_ => some k_ ≠ ((.slice Ao24 t762.length co24) : Value).ownBlock ∧ some k_ ≠ ((.slice Ao28 t768.length co28) : Value).ownBlock) (.slice Ao27 t765.length co27) t765) ∧ Aside0 (Kd.R Kd.string 9 wc w.heap.size (fun k_ => some k_ ≠ ((.slice Ao24 t762.length co24) : Value).ownBlock ∧ some k_ ≠ ((.slice Ao27 t765.length co27) : Value).ownBlock) (.slice Ao28 t768.length co28) t768) ∧ Aside0 (wc.heap[gb748]? = some (.cells #[(.slice A0_0 l0_0.length c0_0), (.slice A0_1 l0_1.length c0_1), (.slice A0_2 l0_2.length c0_2), .int .i64 a0_3] 29 (0, 0))) ∧ Aside0 (wc.heap[gb772]? = some (.cells #[(.slice Ao24 t762.length co24), (.slice Ao27 t765.length co27), (.slice Ao28 t768.length co28), .int .i64 t771] 33 (0, 0))) ∧ Aside0 (Below w.heap.size w wc))
  case first =>
   have H := HC11.out
   clear HC11
   by_cases c30 : t773.toList = t760.toList
   ·rw [if_pos c30] at H
    have c30b0 : (t773.toList == t760.toList) = true := beq_iff_eq.mpr c30
    have c30b1 : (t773.toList != t760.toList) = false := bne_eq_false_iff_eq.mpr c30
    clear c30
    (first | rw [c30b0] | (simp only [i64_w, i32_w]; rw [c30b0]) | skip)
    have H' := Aside0.mk H
    clear H
    go_wp2
    go_meet
    case rel => exact ⟨_, ((t774 != t761)), (by first | rfl | (simp; done) | (simp [*]; done) | (simp [bne]; done)), H', ⟨by first | omega | exact Nat.le_refl _⟩, ⟨by (with_reducible repeat (first | apply Kd.R_alloc | apply Kd.R_drewN | apply Kd.R_drew)); exact Kd.R_mono HO764.out (fun _ hk => ⟨hk.1.1.1.1, hk.1.1.1.2⟩)⟩, ⟨by (with_reducible repeat (first | apply Kd.R_alloc | apply Kd.R_drewN | apply Kd.R_drew)); exact Kd.R_mono HO767.out (fun _ hk => ⟨hk.1.1.1.1, hk.1.1.1.2⟩)⟩, ⟨by (with_reducible repeat (first | apply Kd.R_alloc | apply Kd.R_drewN | apply Kd.R_drew)); exact Kd.R_mono HO770.out (fun _ hk => ⟨hk.1.1.1.1, hk.1.1.1.2⟩)⟩, ⟨by (with_reducible repeat (first | refine blk_drewN ?_ _ | refine blk_drew ?_ | refine blk_alloc ?_ _)); exact BK748.out⟩, ⟨by (with_reducible repeat (first | refine blk_drewN ?_ _ | refine blk_drew ?_ | refine blk_alloc ?_ _)); exact BK772.out⟩, ⟨by repeat (first | (with_reducible first | exact HB.out | apply below_alloc | apply pw_below_drewN | apply below_drew1 | refine below_set ?_ GE748.out | refine below_set ?_ GE772.out) | exact HB.out)⟩⟩
   ·rw [if_neg c30] at H
    have c30b0 : (t773.toList == t760.toList) = false := beq_eq_false_iff_ne.mpr c30
    have c30b1 : (t773.toList != t760.toList) = true := bne_iff_ne.mpr c30
    (first | rw [c30b0] | (simp only [i64_w, i32_w]; rw [c30b0]) | skip)
    have H' := Aside0.mk H
    clear H
    go_wp2
    go_meet
    case rel => exact ⟨_, (true), (by first | rfl | (simp; done) | (simp [*]; done) | (simp [bne]; done)), H', ⟨by first | omega | exact Nat.le_refl _⟩, ⟨by (with_reducible repeat (first | apply Kd.R_alloc | apply Kd.R_drewN | apply Kd.R_drew)); exact Kd.R_mono HO764.out (fun _ hk => ⟨hk.1.1.1.1, hk.1.1.1.2⟩)⟩, ⟨by (with_reducible repeat (first | apply Kd.R_alloc | apply Kd.R_drewN | apply Kd.R_drew)); exact Kd.R_mono HO767.out (fun _ hk => ⟨hk.1.1.1.1, hk.1.1.1.2⟩)⟩, ⟨by (with_reducible repeat (first | apply Kd.R_alloc | apply Kd.R_drewN | apply Kd.R_drew)); exact Kd.R_mono HO770.out (fun _ hk => ⟨hk.1.1.1.1, hk.1.1.1.2⟩)⟩, ⟨by (with_reducible repeat (first | refine blk_drewN ?_ _ | refine blk_drew ?_ | refine blk_alloc ?_ _)); exact BK748.out⟩, ⟨by (with_reducible repeat (first | refine blk_drewN ?_ _ | refine blk_drew ?_ | refine blk_alloc ?_ _)); exact BK772.out⟩, ⟨by repeat (first | (with_reducible first | exact HB.out | apply below_alloc | apply pw_below_drewN | apply below_drew1 | refine below_set ?_ GE748.out | refine below_set ?_ GE772.out) | exact HB.out)⟩⟩
  case rest =>
   clear HC11
   try clear c1
   try clear c2
   try clear p2
   try clear c3
   try clear c3b0
   try clear c5
   try clear c10
   try clear c20
   try clear c22
   try clear c25
   try clear c30
   try clear c30b0
   try clear c30b1
   try clear hcz13_0
   try clear hcz13_1
   try clear hcz13_2
   try clear hcz13_3
   try clear hcz15_0
   try clear hcz15_1
   try clear hcz15_2
   try clear hcz15_3
   try clear hcz21_0
   try clear hcz21_1
   try clear hcz21_2
   try clear hcz21_3
   try clear hcz26_0
   try clear hcz26_1
   try clear hcz26_2
   try clear hcz26_3
   try clear hcz5_0
   try clear hcz5_1
   try clear hcz5_2
   try clear hcz5_3
   try clear hfz13_0
   try clear hfz13_1
   try clear hfz13_2
   try clear hfz13_3
   try clear hfz15_0
   try clear hfz15_1
   try clear hfz15_2
   try clear hfz15_3
   try clear hfz21_0
   try clear hfz21_1
   try clear hfz21_2
   try clear hfz21_3
   try clear hfz26_0
   try clear hfz26_1
   try clear hfz26_2
   try clear hfz26_3
   try clear hfz5_0
   try clear hfz5_1
   try clear hfz5_2
   try clear hfz5_3
   obtain ⟨kq, x34_10, rfl, HA, HJ10, HO_773000, HO_773001, HO_773002, BK748, BK772, HB⟩ := hcut
   cases kq with
   | zero => exact absurd HA.out (by simp [laws_FnExactPageDigest.j0])
   | succ kj10 =>
    have H := HA.out
    clear HA
    simp only [laws_FnExactPageDigest.j0] at H
    by_cases c31 : x34_10 = true
    ·subst c31
     have H1 : (some false) = some r := by rw [if_pos rfl] at H; exact H
     clear H
     have H := H1
     clear H1
     obtain rfl := Option.some.inj H
     go_wp2
     go_ret
     exact ⟨by first | rfl | (simp [errW_none, errW_some] <;> rfl) | (simp [*, errW_none, errW_some] <;> rfl), by repeat (first | (with_reducible first | exact HB.out | apply below_alloc | apply pw_below_drewN | apply below_drew1 | refine below_set ?_ GE748.out | refine below_set ?_ GE772.out) | exact HB.out)⟩
    ·replace c31 := Bool.eq_false_iff.mpr c31
     subst c31
     have H1 : ((laws_toShown.f kj10 l0_0 l0_1 l0_2 a0_3).bind fun bt775 => ((laws_eqShown.f kj10 t762 t765 t768 t771 bt775.1 bt775.2.1 bt775.2.2.1 bt775.2.2.2).bind fun t785 => (if t785 = true then (some true) else (some false)))) = some r := by rw [if_neg (show ¬ (false = true) by decide)] at H; exact H
     clear H
     have H := H1
     clear H1
     replace H := Option.bind_eq_some_iff.mp H
     obtain ⟨⟨t775, t778, t781, t784⟩, A320, H⟩ := H
     replace H : ((laws_eqShown.f kj10 t762 t765 t768 t771 t775 t778 t781 t784).bind fun t785 => (if t785 = true then (some true) else (some false))) = some r := H
     have A32 := Aside0.mk A320
     clear A320
     replace H := Option.bind_eq_some_iff.mp H
     obtain ⟨t785, A330, H⟩ := H
     replace H : (if t785 = true then (some true) else (some false)) = some r := H
     have A33 := Aside0.mk A330
     clear A330
     by_cases c34 : t785 = true
     ·subst c34
      have H1 : (some true) = some r := by rw [if_pos rfl] at H; exact H
      clear H
      have H := H1
      clear H1
      obtain rfl := Option.some.inj H
      try go_wp2
      have n0_ := Aside0.mk (Kd.R_drew HO_773000.out)
      have n1_ := Aside0.mk (Kd.R_drew HO_773001.out)
      have n2_ := Aside0.mk (Kd.R_drew HO_773002.out)
      have n3_ := Aside0.mk (blk_drew BK748.out)
      have n4_ := Aside0.mk (blk_drew BK772.out)
      have n5_ := Aside0.mk (below_drew1 HB.out)
      clear HO_773000
      clear HO_773001
      clear HO_773002
      clear BK748
      clear BK772
      clear HB
      have HO_773000 := n0_
      have HO_773001 := n1_
      have HO_773002 := n2_
      have BK748 := n3_
      have BK772 := n4_
      have HB := n5_
      clear n0_ n1_ n2_ n3_ n4_ n5_
      refine start_ (n := 5) (S := fun w' => w'.cell? ⟨gb772, 0, none⟩ = some (.slice Ao24 t762.length co24) ∧ w'.cell? ⟨gb772, 1, none⟩ = some (.slice Ao27 t765.length co27) ∧ w'.cell? ⟨gb772, 2, none⟩ = some (.slice Ao28 t768.length co28) ∧ w'.cell? ⟨gb772, 3, none⟩ = some (.int .i64 t771) ∧ w'.cell? ⟨gb748, 0, none⟩ = some (.slice A0_0 l0_0.length c0_0) ∧ w'.cell? ⟨gb748, 1, none⟩ = some (.slice A0_1 l0_1.length c0_1) ∧ w'.cell? ⟨gb748, 2, none⟩ = some (.slice A0_2 l0_2.length c0_2) ∧ w'.cell? ⟨gb748, 3, none⟩ = some (.int .i64 a0_3)) (ds := []) #[false, false, false, false, false] (by kernel_rfl) rfl rfl ⟨(blk_cell BK772.out 0).trans rfl, (blk_cell BK772.out 1).trans rfl, (blk_cell BK772.out 2).trans rfl, (blk_cell BK772.out 3).trans rfl, (blk_cell BK748.out 0).trans rfl, (blk_cell BK748.out 1).trans rfl, (blk_cell BK748.out 2).trans rfl, (blk_cell BK748.out 3).trans rfl⟩ (fun hHeld => ?_)
      generalize wc.drew = w35 at HO_773000 HO_773001 HO_773002 BK748 BK772 HB hHeld ⊢
      refine take_ (i := 0) (N := some 35) (v := ?_) (a' := ?_) #[true, false, false, false, false] rfl rfl (by kernel_rfl) (fun _ _ _ h => h) (Or.inl ⟨by rfl, ?_⟩) hHeld ?_ ?_
      rotate_left
      ·rintro w' ⟨s0, s1, s2, s3, s4, s5, s6, s7⟩
       go_simp
       with_reducible rfl
      rotate_left
      ·simp only [Act.put, List.setIfInBounds_toArray, List.set_cons_zero, List.set_cons_succ, i64_w, i32_w]
       rfl
      refine take_ (i := 1) (N := some 36) (v := ?_) (a' := ?_) #[true, true, false, false, false] rfl rfl (by kernel_rfl) (fun _ _ _ h => h) (Or.inl ⟨by rfl, ?_⟩) hHeld ?_ ?_
      rotate_left
      ·rintro w' ⟨s0, s1, s2, s3, s4, s5, s6, s7⟩
       go_simp
       with_reducible rfl
      rotate_left
      ·simp only [Act.put, List.setIfInBounds_toArray, List.set_cons_zero, List.set_cons_succ, i64_w, i32_w]
       rfl
      refine one_ (i := 2) (N := some 37) #[true, true, true, false, false] rfl rfl (by kernel_rfl) (by decide) (fun K hK => ?_)
      refine goes_ Try.func22 (by kernel_rfl) rfl #[.agg #[.slice A0_0 l0_0.length c0_0, .slice A0_1 l0_1.length c0_1, .slice A0_2 l0_2.length c0_2, .int .i64 a0_3]] (by rfl) rfl rfl (by (try simp only [List.map_toArray, List.map_cons, List.map_nil]); first | done | rfl | (simp only [List.length_drop, List.length_take]; rfl)) ?_
      with_reducible refine (laws_toShown.calls kj10 _ _ l0_0 _ _ l0_1 _ _ l0_2 a0_3 t775 t778 t781 t784 _ ?side1 ?side2 ?side3 ?side4 ?side5 ?side6 A32.out).mono ?_
      (case side1 => repeat (first | exact (Kd.C_below HR0_0.out HB.out) | (with_reducible refine Kd.C_alloc ?_ _) | (with_reducible refine Kd.C_drewN ?_ _) | (with_reducible refine Kd.C_drew ?_)))
      (case side2 => exact HC0_0.out)
      (case side3 => repeat (first | exact (Kd.C_below HR0_1.out HB.out) | (with_reducible refine Kd.C_alloc ?_ _) | (with_reducible refine Kd.C_drewN ?_ _) | (with_reducible refine Kd.C_drew ?_)))
      (case side4 => exact HC0_1.out)
      (case side5 => repeat (first | exact (Kd.C_below HR0_2.out HB.out) | (with_reducible refine Kd.C_alloc ?_ _) | (with_reducible refine Kd.C_drewN ?_ _) | (with_reducible refine Kd.C_drew ?_)))
      (case side6 => exact HC0_2.out)
      rintro e w36 ⟨v776, v779, v782, rfl, ho0, ho1, ho2, hb⟩
      refine ⟨_, rfl, ?_⟩
      have n0_ := Aside0.mk (Kd.R_mono (Kd.R_told (Kd.R_told (Kd.R_told (Kd.R_old (by (with_reducible repeat (first | apply Kd.R_alloc | apply Kd.R_drewN | apply Kd.R_drew)); exact HO_773000.out) hb) (Kd.R_base ho0)) (Kd.R_base ho1)) (Kd.R_base ho2)) (fun _ h_ => h_.1))
      have n1_ := Aside0.mk (Kd.R_mono (Kd.R_told (Kd.R_told (Kd.R_told (Kd.R_old (by (with_reducible repeat (first | apply Kd.R_alloc | apply Kd.R_drewN | apply Kd.R_drew)); exact HO_773001.out) hb) (Kd.R_base ho0)) (Kd.R_base ho1)) (Kd.R_base ho2)) (fun _ h_ => h_.1))
      have n2_ := Aside0.mk (Kd.R_mono (Kd.R_told (Kd.R_told (Kd.R_told (Kd.R_old (by (with_reducible repeat (first | apply Kd.R_alloc | apply Kd.R_drewN | apply Kd.R_drew)); exact HO_773002.out) hb) (Kd.R_base ho0)) (Kd.R_base ho1)) (Kd.R_base ho2)) (fun _ h_ => h_.1))
      have n3_ := Aside0.mk (Kd.R_lower (Kd.R_new' (Kd.R_new' (Kd.R_new' ho0 (Kd.R_lt (by (with_reducible repeat (first | apply Kd.R_alloc | apply Kd.R_drewN | apply Kd.R_drew)); exact HO_773000.out))) (Kd.R_lt (by (with_reducible repeat (first | apply Kd.R_alloc | apply Kd.R_drewN | apply Kd.R_drew)); exact HO_773001.out))) (Kd.R_lt (by (with_reducible repeat (first | apply Kd.R_alloc | apply Kd.R_drewN | apply Kd.R_drew)); exact HO_773002.out))) (below_size (by repeat (first | (with_reducible first | exact HB.out | apply below_alloc | apply pw_below_drewN | apply below_drew1 | refine below_set ?_ GE748.out | refine below_set ?_ GE772.out) | exact HB.out))))
      have n4_ := Aside0.mk (Kd.R_lower (Kd.R_new' (Kd.R_new' (Kd.R_new' ho1 (Kd.R_lt (by (with_reducible repeat (first | apply Kd.R_alloc | apply Kd.R_drewN | apply Kd.R_drew)); exact HO_773000.out))) (Kd.R_lt (by (with_reducible repeat (first | apply Kd.R_alloc | apply Kd.R_drewN | apply Kd.R_drew)); exact HO_773001.out))) (Kd.R_lt (by (with_reducible repeat (first | apply Kd.R_alloc | apply Kd.R_drewN | apply Kd.R_drew)); exact HO_773002.out))) (below_size (by repeat (first | (with_reducible first | exact HB.out | apply below_alloc | apply pw_below_drewN | apply below_drew1 | refine below_set ?_ GE748.out | refine below_set ?_ GE772.out) | exact HB.out))))
      have n5_ := Aside0.mk (Kd.R_lower (Kd.R_new' (Kd.R_new' (Kd.R_new' ho2 (Kd.R_lt (by (with_reducible repeat (first | apply Kd.R_alloc | apply Kd.R_drewN | apply Kd.R_drew)); exact HO_773000.out))) (Kd.R_lt (by (with_reducible repeat (first | apply Kd.R_alloc | apply Kd.R_drewN | apply Kd.R_drew)); exact HO_773001.out))) (Kd.R_lt (by (with_reducible repeat (first | apply Kd.R_alloc | apply Kd.R_drewN | apply Kd.R_drew)); exact HO_773002.out))) (below_size (by repeat (first | (with_reducible first | exact HB.out | apply below_alloc | apply pw_below_drewN | apply below_drew1 | refine below_set ?_ GE748.out | refine below_set ?_ GE772.out) | exact HB.out))))
      have n6_ := Aside0.mk (blk_below (g := gb748) (o := .cells #[.slice A0_0 l0_0.length c0_0, .slice A0_1 l0_1.length c0_1, .slice A0_2 l0_2.length c0_2, .int .i64 a0_3] 29 (0, 0)) (by (with_reducible repeat (first | refine blk_drewN ?_ _ | refine blk_drew ?_ | refine blk_alloc ?_ _)); exact BK748.out) hb)
      have n7_ := Aside0.mk (blk_below (g := gb772) (o := .cells #[.slice Ao24 t762.length co24, .slice Ao27 t765.length co27, .slice Ao28 t768.length co28, .int .i64 t771] 33 (0, 0)) (by (with_reducible repeat (first | refine blk_drewN ?_ _ | refine blk_drew ?_ | refine blk_alloc ?_ _)); exact BK772.out) hb)
      have n8_ := Aside0.mk (below_step (by repeat (first | (with_reducible first | exact HB.out | apply below_alloc | apply pw_below_drewN | apply below_drew1 | refine below_set ?_ GE748.out | refine below_set ?_ GE772.out) | exact HB.out)) hb)
      clear HO_773000
      clear HO_773001
      clear HO_773002
      clear BK748
      clear BK772
      clear HB
      have HO_773000 := n0_
      have HO_773001 := n1_
      have HO_773002 := n2_
      have HO777 := n3_
      have HO780 := n4_
      have HO783 := n5_
      have BK748 := n6_
      have BK772 := n7_
      have HB := n8_
      clear n0_ n1_ n2_ n3_ n4_ n5_ n6_ n7_ n8_
      (try clear hb)
      (try clear hb2)
      (try clear hk)
      (try clear hi)
      (try clear ho0)
      (try clear ho1)
      (try clear ho2)
      obtain ⟨Ao37, co37, eo37⟩ := Kd.R_slice HO777.out
      (first | subst eo37 | (injection eo37 with f1_ f2_ f3_; have f4_ := f1_.symm; have f5_ := f3_.symm; clear f1_ f2_ f3_; subst f4_; subst f5_))
      obtain ⟨Ao38, co38, eo38⟩ := Kd.R_slice HO780.out
      (first | subst eo38 | (injection eo38 with f1_ f2_ f3_; have f4_ := f1_.symm; have f5_ := f3_.symm; clear f1_ f2_ f3_; subst f4_; subst f5_))
      obtain ⟨Ao39, co39, eo39⟩ := Kd.R_slice HO783.out
      (first | subst eo39 | (injection eo39 with f1_ f2_ f3_; have f4_ := f1_.symm; have f5_ := f3_.symm; clear f1_ f2_ f3_; subst f4_; subst f5_))
      refine hK.out _ _ ⟨(blk_cell BK772.out 0).trans rfl, (blk_cell BK772.out 1).trans rfl, (blk_cell BK772.out 2).trans rfl, (blk_cell BK772.out 3).trans rfl, (blk_cell BK748.out 0).trans rfl, (blk_cell BK748.out 1).trans rfl, (blk_cell BK748.out 2).trans rfl, (blk_cell BK748.out 3).trans rfl⟩ (fun hHeld => ?_)
      clear hK K
      refine norm_ (a' := ?_) ?_ ?_
      rotate_left
      ·show Act.put _ (some 37) _ = _
       simp only [Act.put, List.setIfInBounds_toArray, List.set_cons_zero, List.set_cons_succ, i64_w, i32_w]
       rfl
      refine one_ (i := 3) (N := some 38) #[true, true, true, true, false] rfl rfl (by kernel_rfl) (by decide) (fun K hK => ?_)
      refine goes_ Try.func24 (by kernel_rfl) rfl #[.agg #[.slice Ao24 t762.length co24, .slice Ao27 t765.length co27, .slice Ao28 t768.length co28, .int .i64 t771], .agg #[.slice Ao37 t775.length co37, .slice Ao38 t778.length co38, .slice Ao39 t781.length co39, .int .i64 t784]] (by rfl) rfl rfl (by (try simp only [List.map_toArray, List.map_cons, List.map_nil]); first | done | rfl | (simp only [List.length_drop, List.length_take]; rfl)) ?_
      with_reducible refine (laws_eqShown.calls kj10 _ _ t762 _ _ t765 _ _ t768 t771 _ _ t775 _ _ t778 _ _ t781 t784 true _ ?side1 ?side2 ?side3 ?side4 ?side5 ?side6 ?side7 ?side8 ?side9 ?side10 ?side11 ?side12 A33.out).mono ?_
      (case side1 => repeat (first | exact (Kd.R_reads' HO_773000.out).2.2 | (with_reducible refine Kd.C_alloc ?_ _) | (with_reducible refine Kd.C_drewN ?_ _) | (with_reducible refine Kd.C_drew ?_)))
      (case side2 => exact (Kd.R_reads' HO_773000.out).2.1)
      (case side3 => repeat (first | exact (Kd.R_reads' HO_773001.out).2.2 | (with_reducible refine Kd.C_alloc ?_ _) | (with_reducible refine Kd.C_drewN ?_ _) | (with_reducible refine Kd.C_drew ?_)))
      (case side4 => exact (Kd.R_reads' HO_773001.out).2.1)
      (case side5 => repeat (first | exact (Kd.R_reads' HO_773002.out).2.2 | (with_reducible refine Kd.C_alloc ?_ _) | (with_reducible refine Kd.C_drewN ?_ _) | (with_reducible refine Kd.C_drew ?_)))
      (case side6 => exact (Kd.R_reads' HO_773002.out).2.1)
      (case side7 => repeat (first | exact (Kd.R_reads' HO777.out).2.2 | (with_reducible refine Kd.C_alloc ?_ _) | (with_reducible refine Kd.C_drewN ?_ _) | (with_reducible refine Kd.C_drew ?_)))
      (case side8 => exact (Kd.R_reads' HO777.out).2.1)
      (case side9 => repeat (first | exact (Kd.R_reads' HO780.out).2.2 | (with_reducible refine Kd.C_alloc ?_ _) | (with_reducible refine Kd.C_drewN ?_ _) | (with_reducible refine Kd.C_drew ?_)))
      (case side10 => exact (Kd.R_reads' HO780.out).2.1)
      (case side11 => repeat (first | exact (Kd.R_reads' HO783.out).2.2 | (with_reducible refine Kd.C_alloc ?_ _) | (with_reducible refine Kd.C_drewN ?_ _) | (with_reducible refine Kd.C_drew ?_)))
      (case side12 => exact (Kd.R_reads' HO783.out).2.1)
      rintro e w40 ⟨rfl, hb⟩
      refine ⟨_, rfl, ?_⟩
      have n0_ := Aside0.mk (Kd.R_below (by (with_reducible repeat (first | apply Kd.R_alloc | apply Kd.R_drewN | apply Kd.R_drew)); exact HO_773000.out) hb)
      have n1_ := Aside0.mk (Kd.R_below (by (with_reducible repeat (first | apply Kd.R_alloc | apply Kd.R_drewN | apply Kd.R_drew)); exact HO_773001.out) hb)
      have n2_ := Aside0.mk (Kd.R_below (by (with_reducible repeat (first | apply Kd.R_alloc | apply Kd.R_drewN | apply Kd.R_drew)); exact HO_773002.out) hb)
      have n3_ := Aside0.mk (Kd.R_below (by (with_reducible repeat (first | apply Kd.R_alloc | apply Kd.R_drewN | apply Kd.R_drew)); exact HO777.out) hb)
      have n4_ := Aside0.mk (Kd.R_below (by (with_reducible repeat (first | apply Kd.R_alloc | apply Kd.R_drewN | apply Kd.R_drew)); exact HO780.out) hb)
      have n5_ := Aside0.mk (Kd.R_below (by (with_reducible repeat (first | apply Kd.R_alloc | apply Kd.R_drewN | apply Kd.R_drew)); exact HO783.out) hb)
      have n6_ := Aside0.mk (blk_below (g := gb748) (o := .cells #[.slice A0_0 l0_0.length c0_0, .slice A0_1 l0_1.length c0_1, .slice A0_2 l0_2.length c0_2, .int .i64 a0_3] 29 (0, 0)) (by (with_reducible repeat (first | refine blk_drewN ?_ _ | refine blk_drew ?_ | refine blk_alloc ?_ _)); exact BK748.out) hb)
      have n7_ := Aside0.mk (blk_below (g := gb772) (o := .cells #[.slice Ao24 t762.length co24, .slice Ao27 t765.length co27, .slice Ao28 t768.length co28, .int .i64 t771] 33 (0, 0)) (by (with_reducible repeat (first | refine blk_drewN ?_ _ | refine blk_drew ?_ | refine blk_alloc ?_ _)); exact BK772.out) hb)
      have n8_ := Aside0.mk (below_step (by repeat (first | (with_reducible first | exact HB.out | apply below_alloc | apply pw_below_drewN | apply below_drew1 | refine below_set ?_ GE748.out | refine below_set ?_ GE772.out) | exact HB.out)) hb)
      clear HO_773000
      clear HO_773001
      clear HO_773002
      clear HO777
      clear HO780
      clear HO783
      clear BK748
      clear BK772
      clear HB
      have HO_773000 := n0_
      have HO_773001 := n1_
      have HO_773002 := n2_
      have HO777 := n3_
      have HO780 := n4_
      have HO783 := n5_
      have BK748 := n6_
      have BK772 := n7_
      have HB := n8_
      clear n0_ n1_ n2_ n3_ n4_ n5_ n6_ n7_ n8_
      (try clear hb)
      (try clear hb2)
      (try clear hk)
      (try clear hi)
      refine hK.out _ _ ⟨(blk_cell BK772.out 0).trans rfl, (blk_cell BK772.out 1).trans rfl, (blk_cell BK772.out 2).trans rfl, (blk_cell BK772.out 3).trans rfl, (blk_cell BK748.out 0).trans rfl, (blk_cell BK748.out 1).trans rfl, (blk_cell BK748.out 2).trans rfl, (blk_cell BK748.out 3).trans rfl⟩ (fun hHeld => ?_)
      clear hK K
      refine norm_ (a' := ?_) ?_ ?_
      rotate_left
      ·show Act.put _ (some 38) _ = _
       simp only [Act.put, List.setIfInBounds_toArray, List.set_cons_zero, List.set_cons_succ, i64_w, i32_w]
       rfl
      refine pure_ (i := 4) (N := some 39) (v := ?_) (a' := ?_) #[true, true, true, true, true] rfl rfl (by kernel_rfl) (fun _ _ _ h => h) (Or.inl ⟨by rfl, ?_⟩) ?_ ?_
      rotate_left
      ·intro w'
       go_simp
       with_reducible rfl
      rotate_left
      ·simp only [Act.put, List.setIfInBounds_toArray, List.set_cons_zero, List.set_cons_succ, i64_w, i32_w]
       rfl
      refine done_ (by kernel_rfl) ?_
      try go_wp2
      go_ret
      exact ⟨by first | rfl | (simp [errW_none, errW_some] <;> rfl) | (simp [*, errW_none, errW_some] <;> rfl), by repeat (first | (with_reducible first | exact HB.out | apply below_alloc | apply pw_below_drewN | apply below_drew1 | refine below_set ?_ GE748.out | refine below_set ?_ GE772.out) | exact HB.out)⟩
     ·replace c34 := Bool.eq_false_iff.mpr c34
      subst c34
      have H1 : (some false) = some r := by rw [if_neg (show ¬ (false = true) by decide)] at H; exact H
      clear H
      have H := H1
      clear H1
      obtain rfl := Option.some.inj H
      try go_wp2
      have n0_ := Aside0.mk (Kd.R_drew HO_773000.out)
      have n1_ := Aside0.mk (Kd.R_drew HO_773001.out)
      have n2_ := Aside0.mk (Kd.R_drew HO_773002.out)
      have n3_ := Aside0.mk (blk_drew BK748.out)
      have n4_ := Aside0.mk (blk_drew BK772.out)
      have n5_ := Aside0.mk (below_drew1 HB.out)
      clear HO_773000
      clear HO_773001
      clear HO_773002
      clear BK748
      clear BK772
      clear HB
      have HO_773000 := n0_
      have HO_773001 := n1_
      have HO_773002 := n2_
      have BK748 := n3_
      have BK772 := n4_
      have HB := n5_
      clear n0_ n1_ n2_ n3_ n4_ n5_
      refine start_ (n := 5) (S := fun w' => w'.cell? ⟨gb772, 0, none⟩ = some (.slice Ao24 t762.length co24) ∧ w'.cell? ⟨gb772, 1, none⟩ = some (.slice Ao27 t765.length co27) ∧ w'.cell? ⟨gb772, 2, none⟩ = some (.slice Ao28 t768.length co28) ∧ w'.cell? ⟨gb772, 3, none⟩ = some (.int .i64 t771) ∧ w'.cell? ⟨gb748, 0, none⟩ = some (.slice A0_0 l0_0.length c0_0) ∧ w'.cell? ⟨gb748, 1, none⟩ = some (.slice A0_1 l0_1.length c0_1) ∧ w'.cell? ⟨gb748, 2, none⟩ = some (.slice A0_2 l0_2.length c0_2) ∧ w'.cell? ⟨gb748, 3, none⟩ = some (.int .i64 a0_3)) (ds := []) #[false, false, false, false, false] (by kernel_rfl) rfl rfl ⟨(blk_cell BK772.out 0).trans rfl, (blk_cell BK772.out 1).trans rfl, (blk_cell BK772.out 2).trans rfl, (blk_cell BK772.out 3).trans rfl, (blk_cell BK748.out 0).trans rfl, (blk_cell BK748.out 1).trans rfl, (blk_cell BK748.out 2).trans rfl, (blk_cell BK748.out 3).trans rfl⟩ (fun hHeld => ?_)
      generalize wc.drew = w41 at HO_773000 HO_773001 HO_773002 BK748 BK772 HB hHeld ⊢
      refine take_ (i := 0) (N := some 35) (v := ?_) (a' := ?_) #[true, false, false, false, false] rfl rfl (by kernel_rfl) (fun _ _ _ h => h) (Or.inl ⟨by rfl, ?_⟩) hHeld ?_ ?_
      rotate_left
      ·rintro w' ⟨s0, s1, s2, s3, s4, s5, s6, s7⟩
       go_simp
       with_reducible rfl
      rotate_left
      ·simp only [Act.put, List.setIfInBounds_toArray, List.set_cons_zero, List.set_cons_succ, i64_w, i32_w]
       rfl
      refine take_ (i := 1) (N := some 36) (v := ?_) (a' := ?_) #[true, true, false, false, false] rfl rfl (by kernel_rfl) (fun _ _ _ h => h) (Or.inl ⟨by rfl, ?_⟩) hHeld ?_ ?_
      rotate_left
      ·rintro w' ⟨s0, s1, s2, s3, s4, s5, s6, s7⟩
       go_simp
       with_reducible rfl
      rotate_left
      ·simp only [Act.put, List.setIfInBounds_toArray, List.set_cons_zero, List.set_cons_succ, i64_w, i32_w]
       rfl
      refine one_ (i := 2) (N := some 37) #[true, true, true, false, false] rfl rfl (by kernel_rfl) (by decide) (fun K hK => ?_)
      refine goes_ Try.func22 (by kernel_rfl) rfl #[.agg #[.slice A0_0 l0_0.length c0_0, .slice A0_1 l0_1.length c0_1, .slice A0_2 l0_2.length c0_2, .int .i64 a0_3]] (by rfl) rfl rfl (by (try simp only [List.map_toArray, List.map_cons, List.map_nil]); first | done | rfl | (simp only [List.length_drop, List.length_take]; rfl)) ?_
      with_reducible refine (laws_toShown.calls kj10 _ _ l0_0 _ _ l0_1 _ _ l0_2 a0_3 t775 t778 t781 t784 _ ?side1 ?side2 ?side3 ?side4 ?side5 ?side6 A32.out).mono ?_
      (case side1 => repeat (first | exact (Kd.C_below HR0_0.out HB.out) | (with_reducible refine Kd.C_alloc ?_ _) | (with_reducible refine Kd.C_drewN ?_ _) | (with_reducible refine Kd.C_drew ?_)))
      (case side2 => exact HC0_0.out)
      (case side3 => repeat (first | exact (Kd.C_below HR0_1.out HB.out) | (with_reducible refine Kd.C_alloc ?_ _) | (with_reducible refine Kd.C_drewN ?_ _) | (with_reducible refine Kd.C_drew ?_)))
      (case side4 => exact HC0_1.out)
      (case side5 => repeat (first | exact (Kd.C_below HR0_2.out HB.out) | (with_reducible refine Kd.C_alloc ?_ _) | (with_reducible refine Kd.C_drewN ?_ _) | (with_reducible refine Kd.C_drew ?_)))
      (case side6 => exact HC0_2.out)
      rintro e w42 ⟨v776, v779, v782, rfl, ho0, ho1, ho2, hb⟩
      refine ⟨_, rfl, ?_⟩
      have n0_ := Aside0.mk (Kd.R_mono (Kd.R_told (Kd.R_told (Kd.R_told (Kd.R_old (by (with_reducible repeat (first | apply Kd.R_alloc | apply Kd.R_drewN | apply Kd.R_drew)); exact HO_773000.out) hb) (Kd.R_base ho0)) (Kd.R_base ho1)) (Kd.R_base ho2)) (fun _ h_ => h_.1))
      have n1_ := Aside0.mk (Kd.R_mono (Kd.R_told (Kd.R_told (Kd.R_told (Kd.R_old (by (with_reducible repeat (first | apply Kd.R_alloc | apply Kd.R_drewN | apply Kd.R_drew)); exact HO_773001.out) hb) (Kd.R_base ho0)) (Kd.R_base ho1)) (Kd.R_base ho2)) (fun _ h_ => h_.1))
      have n2_ := Aside0.mk (Kd.R_mono (Kd.R_told (Kd.R_told (Kd.R_told (Kd.R_old (by (with_reducible repeat (first | apply Kd.R_alloc | apply Kd.R_drewN | apply Kd.R_drew)); exact HO_773002.out) hb) (Kd.R_base ho0)) (Kd.R_base ho1)) (Kd.R_base ho2)) (fun _ h_ => h_.1))
      have n3_ := Aside0.mk (Kd.R_lower (Kd.R_new' (Kd.R_new' (Kd.R_new' ho0 (Kd.R_lt (by (with_reducible repeat (first | apply Kd.R_alloc | apply Kd.R_drewN | apply Kd.R_drew)); exact HO_773000.out))) (Kd.R_lt (by (with_reducible repeat (first | apply Kd.R_alloc | apply Kd.R_drewN | apply Kd.R_drew)); exact HO_773001.out))) (Kd.R_lt (by (with_reducible repeat (first | apply Kd.R_alloc | apply Kd.R_drewN | apply Kd.R_drew)); exact HO_773002.out))) (below_size (by repeat (first | (with_reducible first | exact HB.out | apply below_alloc | apply pw_below_drewN | apply below_drew1 | refine below_set ?_ GE748.out | refine below_set ?_ GE772.out) | exact HB.out))))
      have n4_ := Aside0.mk (Kd.R_lower (Kd.R_new' (Kd.R_new' (Kd.R_new' ho1 (Kd.R_lt (by (with_reducible repeat (first | apply Kd.R_alloc | apply Kd.R_drewN | apply Kd.R_drew)); exact HO_773000.out))) (Kd.R_lt (by (with_reducible repeat (first | apply Kd.R_alloc | apply Kd.R_drewN | apply Kd.R_drew)); exact HO_773001.out))) (Kd.R_lt (by (with_reducible repeat (first | apply Kd.R_alloc | apply Kd.R_drewN | apply Kd.R_drew)); exact HO_773002.out))) (below_size (by repeat (first | (with_reducible first | exact HB.out | apply below_alloc | apply pw_below_drewN | apply below_drew1 | refine below_set ?_ GE748.out | refine below_set ?_ GE772.out) | exact HB.out))))
      have n5_ := Aside0.mk (Kd.R_lower (Kd.R_new' (Kd.R_new' (Kd.R_new' ho2 (Kd.R_lt (by (with_reducible repeat (first | apply Kd.R_alloc | apply Kd.R_drewN | apply Kd.R_drew)); exact HO_773000.out))) (Kd.R_lt (by (with_reducible repeat (first | apply Kd.R_alloc | apply Kd.R_drewN | apply Kd.R_drew)); exact HO_773001.out))) (Kd.R_lt (by (with_reducible repeat (first | apply Kd.R_alloc | apply Kd.R_drewN | apply Kd.R_drew)); exact HO_773002.out))) (below_size (by repeat (first | (with_reducible first | exact HB.out | apply below_alloc | apply pw_below_drewN | apply below_drew1 | refine below_set ?_ GE748.out | refine below_set ?_ GE772.out) | exact HB.out))))
      have n6_ := Aside0.mk (blk_below (g := gb748) (o := .cells #[.slice A0_0 l0_0.length c0_0, .slice A0_1 l0_1.length c0_1, .slice A0_2 l0_2.length c0_2, .int .i64 a0_3] 29 (0, 0)) (by (with_reducible repeat (first | refine blk_drewN ?_ _ | refine blk_drew ?_ | refine blk_alloc ?_ _)); exact BK748.out) hb)
      have n7_ := Aside0.mk (blk_below (g := gb772) (o := .cells #[.slice Ao24 t762.length co24, .slice Ao27 t765.length co27, .slice Ao28 t768.length co28, .int .i64 t771] 33 (0, 0)) (by (with_reducible repeat (first | refine blk_drewN ?_ _ | refine blk_drew ?_ | refine blk_alloc ?_ _)); exact BK772.out) hb)
      have n8_ := Aside0.mk (below_step (by repeat (first | (with_reducible first | exact HB.out | apply below_alloc | apply pw_below_drewN | apply below_drew1 | refine below_set ?_ GE748.out | refine below_set ?_ GE772.out) | exact HB.out)) hb)
      clear HO_773000
      clear HO_773001
      clear HO_773002
      clear BK748
      clear BK772
      clear HB
      have HO_773000 := n0_
      have HO_773001 := n1_
      have HO_773002 := n2_
      have HO777 := n3_
      have HO780 := n4_
      have HO783 := n5_
      have BK748 := n6_
      have BK772 := n7_
      have HB := n8_
      clear n0_ n1_ n2_ n3_ n4_ n5_ n6_ n7_ n8_
      (try clear hb)
      (try clear hb2)
      (try clear hk)
      (try clear hi)
      (try clear ho0)
      (try clear ho1)
      (try clear ho2)
      obtain ⟨Ao43, co43, eo43⟩ := Kd.R_slice HO777.out
      (first | subst eo43 | (injection eo43 with f1_ f2_ f3_; have f4_ := f1_.symm; have f5_ := f3_.symm; clear f1_ f2_ f3_; subst f4_; subst f5_))
      obtain ⟨Ao44, co44, eo44⟩ := Kd.R_slice HO780.out
      (first | subst eo44 | (injection eo44 with f1_ f2_ f3_; have f4_ := f1_.symm; have f5_ := f3_.symm; clear f1_ f2_ f3_; subst f4_; subst f5_))
      obtain ⟨Ao45, co45, eo45⟩ := Kd.R_slice HO783.out
      (first | subst eo45 | (injection eo45 with f1_ f2_ f3_; have f4_ := f1_.symm; have f5_ := f3_.symm; clear f1_ f2_ f3_; subst f4_; subst f5_))
      refine hK.out _ _ ⟨(blk_cell BK772.out 0).trans rfl, (blk_cell BK772.out 1).trans rfl, (blk_cell BK772.out 2).trans rfl, (blk_cell BK772.out 3).trans rfl, (blk_cell BK748.out 0).trans rfl, (blk_cell BK748.out 1).trans rfl, (blk_cell BK748.out 2).trans rfl, (blk_cell BK748.out 3).trans rfl⟩ (fun hHeld => ?_)
      clear hK K
      refine norm_ (a' := ?_) ?_ ?_
      rotate_left
      ·show Act.put _ (some 37) _ = _
       simp only [Act.put, List.setIfInBounds_toArray, List.set_cons_zero, List.set_cons_succ, i64_w, i32_w]
       rfl
      refine one_ (i := 3) (N := some 38) #[true, true, true, true, false] rfl rfl (by kernel_rfl) (by decide) (fun K hK => ?_)
      refine goes_ Try.func24 (by kernel_rfl) rfl #[.agg #[.slice Ao24 t762.length co24, .slice Ao27 t765.length co27, .slice Ao28 t768.length co28, .int .i64 t771], .agg #[.slice Ao43 t775.length co43, .slice Ao44 t778.length co44, .slice Ao45 t781.length co45, .int .i64 t784]] (by rfl) rfl rfl (by (try simp only [List.map_toArray, List.map_cons, List.map_nil]); first | done | rfl | (simp only [List.length_drop, List.length_take]; rfl)) ?_
      with_reducible refine (laws_eqShown.calls kj10 _ _ t762 _ _ t765 _ _ t768 t771 _ _ t775 _ _ t778 _ _ t781 t784 false _ ?side1 ?side2 ?side3 ?side4 ?side5 ?side6 ?side7 ?side8 ?side9 ?side10 ?side11 ?side12 A33.out).mono ?_
      (case side1 => repeat (first | exact (Kd.R_reads' HO_773000.out).2.2 | (with_reducible refine Kd.C_alloc ?_ _) | (with_reducible refine Kd.C_drewN ?_ _) | (with_reducible refine Kd.C_drew ?_)))
      (case side2 => exact (Kd.R_reads' HO_773000.out).2.1)
      (case side3 => repeat (first | exact (Kd.R_reads' HO_773001.out).2.2 | (with_reducible refine Kd.C_alloc ?_ _) | (with_reducible refine Kd.C_drewN ?_ _) | (with_reducible refine Kd.C_drew ?_)))
      (case side4 => exact (Kd.R_reads' HO_773001.out).2.1)
      (case side5 => repeat (first | exact (Kd.R_reads' HO_773002.out).2.2 | (with_reducible refine Kd.C_alloc ?_ _) | (with_reducible refine Kd.C_drewN ?_ _) | (with_reducible refine Kd.C_drew ?_)))
      (case side6 => exact (Kd.R_reads' HO_773002.out).2.1)
      (case side7 => repeat (first | exact (Kd.R_reads' HO777.out).2.2 | (with_reducible refine Kd.C_alloc ?_ _) | (with_reducible refine Kd.C_drewN ?_ _) | (with_reducible refine Kd.C_drew ?_)))
      (case side8 => exact (Kd.R_reads' HO777.out).2.1)
      (case side9 => repeat (first | exact (Kd.R_reads' HO780.out).2.2 | (with_reducible refine Kd.C_alloc ?_ _) | (with_reducible refine Kd.C_drewN ?_ _) | (with_reducible refine Kd.C_drew ?_)))
      (case side10 => exact (Kd.R_reads' HO780.out).2.1)
      (case side11 => repeat (first | exact (Kd.R_reads' HO783.out).2.2 | (with_reducible refine Kd.C_alloc ?_ _) | (with_reducible refine Kd.C_drewN ?_ _) | (with_reducible refine Kd.C_drew ?_)))
      (case side12 => exact (Kd.R_reads' HO783.out).2.1)
      rintro e w46 ⟨rfl, hb⟩
      refine ⟨_, rfl, ?_⟩
      have n0_ := Aside0.mk (Kd.R_below (by (with_reducible repeat (first | apply Kd.R_alloc | apply Kd.R_drewN | apply Kd.R_drew)); exact HO_773000.out) hb)
      have n1_ := Aside0.mk (Kd.R_below (by (with_reducible repeat (first | apply Kd.R_alloc | apply Kd.R_drewN | apply Kd.R_drew)); exact HO_773001.out) hb)
      have n2_ := Aside0.mk (Kd.R_below (by (with_reducible repeat (first | apply Kd.R_alloc | apply Kd.R_drewN | apply Kd.R_drew)); exact HO_773002.out) hb)
      have n3_ := Aside0.mk (Kd.R_below (by (with_reducible repeat (first | apply Kd.R_alloc | apply Kd.R_drewN | apply Kd.R_drew)); exact HO777.out) hb)
      have n4_ := Aside0.mk (Kd.R_below (by (with_reducible repeat (first | apply Kd.R_alloc | apply Kd.R_drewN | apply Kd.R_drew)); exact HO780.out) hb)
      have n5_ := Aside0.mk (Kd.R_below (by (with_reducible repeat (first | apply Kd.R_alloc | apply Kd.R_drewN | apply Kd.R_drew)); exact HO783.out) hb)
      have n6_ := Aside0.mk (blk_below (g := gb748) (o := .cells #[.slice A0_0 l0_0.length c0_0, .slice A0_1 l0_1.length c0_1, .slice A0_2 l0_2.length c0_2, .int .i64 a0_3] 29 (0, 0)) (by (with_reducible repeat (first | refine blk_drewN ?_ _ | refine blk_drew ?_ | refine blk_alloc ?_ _)); exact BK748.out) hb)
      have n7_ := Aside0.mk (blk_below (g := gb772) (o := .cells #[.slice Ao24 t762.length co24, .slice Ao27 t765.length co27, .slice Ao28 t768.length co28, .int .i64 t771] 33 (0, 0)) (by (with_reducible repeat (first | refine blk_drewN ?_ _ | refine blk_drew ?_ | refine blk_alloc ?_ _)); exact BK772.out) hb)
      have n8_ := Aside0.mk (below_step (by repeat (first | (with_reducible first | exact HB.out | apply below_alloc | apply pw_below_drewN | apply below_drew1 | refine below_set ?_ GE748.out | refine below_set ?_ GE772.out) | exact HB.out)) hb)
      clear HO_773000
      clear HO_773001
      clear HO_773002
      clear HO777
      clear HO780
      clear HO783
      clear BK748
      clear BK772
      clear HB
      have HO_773000 := n0_
      have HO_773001 := n1_
      have HO_773002 := n2_
      have HO777 := n3_
      have HO780 := n4_
      have HO783 := n5_
      have BK748 := n6_
      have BK772 := n7_
      have HB := n8_
      clear n0_ n1_ n2_ n3_ n4_ n5_ n6_ n7_ n8_
      (try clear hb)
      (try clear hb2)
      (try clear hk)
      (try clear hi)
      refine hK.out _ _ ⟨(blk_cell BK772.out 0).trans rfl, (blk_cell BK772.out 1).trans rfl, (blk_cell BK772.out 2).trans rfl, (blk_cell BK772.out 3).trans rfl, (blk_cell BK748.out 0).trans rfl, (blk_cell BK748.out 1).trans rfl, (blk_cell BK748.out 2).trans rfl, (blk_cell BK748.out 3).trans rfl⟩ (fun hHeld => ?_)
      clear hK K
      refine norm_ (a' := ?_) ?_ ?_
      rotate_left
      ·show Act.put _ (some 38) _ = _
       simp only [Act.put, List.setIfInBounds_toArray, List.set_cons_zero, List.set_cons_succ, i64_w, i32_w]
       rfl
      refine pure_ (i := 4) (N := some 39) (v := ?_) (a' := ?_) #[true, true, true, true, true] rfl rfl (by kernel_rfl) (fun _ _ _ h => h) (Or.inl ⟨by rfl, ?_⟩) ?_ ?_
      rotate_left
      ·intro w'
       go_simp
       with_reducible rfl
      rotate_left
      ·simp only [Act.put, List.setIfInBounds_toArray, List.set_cons_zero, List.set_cons_succ, i64_w, i32_w]
       rfl
      refine done_ (by kernel_rfl) ?_
      try go_wp2
      go_ret
      exact ⟨by first | rfl | (simp [errW_none, errW_some] <;> rfl) | (simp [*, errW_none, errW_some] <;> rfl), by repeat (first | (with_reducible first | exact HB.out | apply below_alloc | apply pw_below_drewN | apply below_drew1 | refine below_set ?_ GE748.out | refine below_set ?_ GE772.out) | exact HB.out)⟩
end Go.Proofs.Ytleegjkloclolaa.PA
end
section
namespace Go.Proofs.Ytleegjkloclolaa.PA
open Go.RowKit Go.Proofs.YtleegjkloclolaaW.PrintWords Go.Proofs.YtleegjkloclolaaW.PrintLast Go.Proofs.YtleegjkloclolaaW.PrintMore
attribute [local go_sem] max2_int min2_int max_two min_two max_three min_three max_four min_four   -- for this text's walks alone
set_option linter.unusedVariables false
set_option linter.unusedSimpArgs false
end Go.Proofs.Ytleegjkloclolaa.PA
end
section
namespace Go.Proofs.Ytleegjkloclolaa.PA
open Go.RowKit Go.Proofs.YtleegjkloclolaaW.PrintWords Go.Proofs.YtleegjkloclolaaW.PrintLast Go.Proofs.YtleegjkloclolaaW.PrintMore
attribute [local go_sem] max2_int min2_int max_two min_two max_three min_three max_four min_four   -- for this text's walks alone
set_option linter.unusedVariables false
set_option linter.unusedSimpArgs false
end Go.Proofs.Ytleegjkloclolaa.PA
end
section
namespace Go.Proofs.Ytleegjkloclolaa.PA
open Go.RowKit Go.Proofs.YtleegjkloclolaaW.PrintWords Go.Proofs.YtleegjkloclolaaW.PrintLast Go.Proofs.YtleegjkloclolaaW.PrintMore
attribute [local go_sem] max2_int min2_int max_two min_two max_three min_three max_four min_four   -- for this text's walks alone
set_option linter.unusedVariables false
set_option linter.unusedSimpArgs false
end Go.Proofs.Ytleegjkloclolaa.PA
end
section
namespace Go.Proofs.Ytleegjkloclolaa.PB
open Go.RowKit Go.Proofs.YtleegjkloclolaaW.PrintWords Go.Proofs.YtleegjkloclolaaW.PrintLast Go.Proofs.YtleegjkloclolaaW.PrintMore
set_option linter.unusedVariables false
theorem ev_pos {α : Type} {c : Prop} [Decidable c] {f g : Nat → Option α} {r : α} (hc : c) (h : Ev f r) : Ev (fun k => if c then f k else g k) r := by
  simp only [if_pos hc]; exact h
theorem ev_neg {α : Type} {c : Prop} [Decidable c] {f g : Nat → Option α} {r : α} (hc : ¬ c) (h : Ev g r) : Ev (fun k => if c then f k else g k) r := by
  simp only [if_neg hc]; exact h
theorem ev_bind {α β : Type} {g : Nat → Option α} {f : Nat → α → Option β} {a : α} {r : β} (h : Ev g a) (k : Ev (fun n => f n a) r) : Ev (fun n => (g n).bind (f n)) r := Ev.bind h k
theorem ev_const {α β : Type} {o : Option α} {f : Nat → α → Option β} {a : α} {r : β} (h : o = some a) (k : Ev (fun n => f n a) r) : Ev (fun n => o.bind (f n)) r := by
  subst h; exact k
theorem ev_of_eq {α : Type} {o : Option α} {r : α} (h : o = some r) : Ev (fun _ => o) r := by subst h; exact Ev.now r
theorem ev_eq {α : Type} {f : Nat → Option α} {r r' : α} (h : Ev f r) (e : r = r') : Ev f r' := e ▸ h
theorem w64 {x : Int} (h0 : -9223372036854775808 ≤ x) (h1 : x ≤ 9223372036854775807) : wrap64 x = x := by
  unfold wrap64; omega
theorem size_toList (s : ByteArray) : s.toList.length = s.size := by rw [ByteArray.toList_eq]; exact data_length s
theorem bt_get (s : ByteArray) (i : Nat) (h : i < s.size) : bt s (i : Int) = ((s.toList.getD i 0).toNat : Int) := by
  rw [ByteArray.toList_eq]
  unfold bt
  rw [dif_pos (by simpa using h)]
  have h' : i < s.data.toList.length := by rw [data_length]; exact h
  simp [List.getD_eq_getElem?_getD, List.getElem?_eq_getElem h']
  rfl
end Go.Proofs.Ytleegjkloclolaa.PB
end
section
namespace Go.Proofs.Ytleegjkloclolaa.PD
open Go.RowKit Go.Proofs.YtleegjkloclolaaW.PrintWords Go.Proofs.YtleegjkloclolaaW.PrintLast Go.Proofs.YtleegjkloclolaaW.PrintMore Go.Proofs.Ytleegjkloclolaa.PB Go.Proofs.Ytleegjkloclolaa.PA
set_option linter.unusedVariables false
def dstep (p : Int × Int) (c : UInt8) : Int × Int := ((p.1 + (c.toNat : Int)) % 65521, (p.2 + (p.1 + (c.toNat : Int)) % 65521) % 65521)
def dfold (p : Int × Int) (l : List UInt8) : Int × Int := l.foldl dstep p
def InP (p : Int × Int) : Prop := 0 ≤ p.1 ∧ p.1 < 65521 ∧ 0 ≤ p.2 ∧ p.2 < 65521
theorem dstep_in {p : Int × Int} {c : UInt8} : InP (dstep p c) := by
  unfold InP dstep; refine ⟨?_, ?_, ?_, ?_⟩ <;> simp only <;> omega
theorem dfold_in {p : Int × Int} (h : InP p) (l : List UInt8) : InP (dfold p l) := by
  induction l generalizing p with
  | nil => exact h
  | cons c l ih => exact ih dstep_in
def four (p : Int × Int) : ByteArray := strOfNums [p.2 / 256 % 256, p.2 % 256, p.1 / 256 % 256, p.1 % 256]
def dig (kind : Int) (s : ByteArray) : ByteArray := four (dfold (kind + 1, kind + 1) s.toList)
theorem drop_at (l : List UInt8) (i : Nat) (h : i < l.length) : l.drop i = l.getD i 0 :: l.drop (i + 1) := by
  rw [List.drop_eq_getElem_cons h]; simp [List.getD_eq_getElem?_getD, List.getElem?_eq_getElem h]
theorem step_arith {A B : Int} {c : Nat} (hA : 0 ≤ A ∧ A < 65521 ∧ 0 ≤ B ∧ B < 65521) (hc : c < 256) :
    Int.tmod (wrap64 (A + wrap64 (c : Int))) 65521 = (A + (c : Int)) % 65521 ∧ Int.tmod (wrap64 (B + (A + (c : Int)) % 65521)) 65521 = (B + (A + (c : Int)) % 65521) % 65521 := by
  have h1 : wrap64 (c : Int) = c := w64 (by omega) (by omega)
  have h2 : wrap64 (A + c) = A + c := w64 (by omega) (by omega)
  have h3 : wrap64 (B + (A + (c : Int)) % 65521) = B + (A + (c : Int)) % 65521 := w64 (by omega) (by omega)
  rw [h1, h2, h3, Int.tmod_eq_emod_of_nonneg (by omega), Int.tmod_eq_emod_of_nonneg (by omega)]
  exact ⟨rfl, rfl⟩
theorem feed_spec (s : ByteArray) (hs : s.size ≤ 1000000000000) (L : Int) (hL : 0 ≤ L ∧ L ≤ 1000000000000) : ∀ (d i : Nat) (A B : Int), i + d = s.size → InP (A, B) →
    Ev (fun k => spec_l1Feed.l0 k s (i : Int) A B L) ((dfold (A, B) (s.toList.drop i)).1, (dfold (A, B) (s.toList.drop i)).2, L + s.size) := by
  intro d
  induction d with
  | zero =>
    intro i A B hi hp
    refine Ev.step (f := fun _ => some (A, B, wrap64 (L + (s.size : Int)))) (fun k => ?_) ?_
    · simp only [spec_l1Feed.l0]; rw [if_neg (by omega)]
    · rw [List.drop_eq_nil_of_le (by rw [size_toList]; omega)]
      rw [w64 (by omega) (by omega)]
      exact Ev.now _
  | succ d ih =>
    intro i A B hi hp
    have hlt : i < s.size := by omega
    have hb := bt_get s i hlt
    have hc : (s.toList.getD i 0).toNat < 256 := UInt8.toNat_lt _
    have ha := step_arith (A := A) (B := B) hp hc
    refine Ev.step (f := fun k => spec_l1Feed.l0 k s ((i + 1 : Nat) : Int) (dstep (A, B) (s.toList.getD i 0)).1 (dstep (A, B) (s.toList.getD i 0)).2 L) (fun k => ?_) ?_
    · simp only [spec_l1Feed.l0]; rw [if_pos (by omega), if_pos (by omega), hb, ha.1, ha.2, w64 (x := (i : Int) + 1) (by omega) (by omega)]
      simp only [dstep]
      congr 1
    · rw [drop_at _ _ (by rw [size_toList]; exact hlt)]
      exact ih (i + 1) _ _ (by omega) dstep_in
theorem feed_impl (s : ByteArray) (hs : s.size ≤ 1000000000000) (L : Int) (hL : 0 ≤ L ∧ L ≤ 1000000000000) : ∀ (d i : Nat) (A B : Int), i + d = s.size → InP (A, B) →
    Ev (fun k => impl_Mix_feed.l0 k s (s.size : Int) (i : Int) A B L) ((dfold (A, B) (s.toList.drop i)).1, (dfold (A, B) (s.toList.drop i)).2, L + s.size) := by
  intro d
  induction d with
  | zero =>
    intro i A B hi hp
    refine Ev.step (f := fun _ => some (A, B, wrap64 (L + (s.size : Int)))) (fun k => ?_) ?_
    · simp only [impl_Mix_feed.l0]; rw [if_neg (by omega)]
    · rw [List.drop_eq_nil_of_le (by rw [size_toList]; omega)]
      rw [w64 (by omega) (by omega)]
      exact Ev.now _
  | succ d ih =>
    intro i A B hi hp
    have hlt : i < s.size := by omega
    have hb := bt_get s i hlt
    have hc : (s.toList.getD i 0).toNat < 256 := UInt8.toNat_lt _
    have ha := step_arith (A := A) (B := B) hp hc
    refine Ev.step (f := fun k => impl_Mix_feed.l0 k s (s.size : Int) ((i + 1 : Nat) : Int) (dstep (A, B) (s.toList.getD i 0)).1 (dstep (A, B) (s.toList.getD i 0)).2 L) (fun k => ?_) ?_
    · simp only [impl_Mix_feed.l0]; rw [if_pos (by omega), if_pos (by omega), if_pos (by omega), hb, ha.1, ha.2, w64 (x := (i : Int) + 1) (by omega) (by omega)]
      simp only [dstep]
      congr 1
    · rw [drop_at _ _ (by rw [size_toList]; exact hlt)]
      exact ih (i + 1) _ _ (by omega) dstep_in
def Kd_ (c : Int) : Prop := 97 ≤ c ∧ c ≤ 122
theorem digS (kind : Int) (hk : Kd_ kind) (s : ByteArray) (hs : s.size ≤ 1000000000000) : Ev (fun k => spec_l1Digest.f k kind s) (dig kind s) := by
  obtain ⟨h0, h1⟩ := hk
  have e1 : spec_NewMix.f kind = some (kind + 1, kind + 1, 0, true) := by
    unfold spec_NewMix.f spec_l1Kind.f
    rw [if_pos (by omega)]
    simp only [Option.bind_some, decide_eq_true h1, if_true]
    rw [w64 (x := kind) (by omega) (by omega), w64 (by omega) (by omega), Int.add_comm]
  have hp : InP (kind + 1, kind + 1) := by unfold InP; refine ⟨?_, ?_, ?_, ?_⟩ <;> simp only <;> omega
  obtain ⟨K, h⟩ := feed_spec s hs 0 (by omega) s.size 0 (kind + 1) (kind + 1) (by omega) hp
  refine ⟨K, fun k hk => ?_⟩
  have h' := h k hk
  dsimp only at h'
  rw [show ((0 : Nat) : Int) = 0 from rfl] at h'
  unfold spec_l1Digest.f spec_l1Feed.f spec_l1End.f
  simp only [e1, Option.bind_some]
  rw [h']
  simp only [Option.bind_some, List.drop_zero]
  rfl
theorem digI (kind : Int) (hk : Kd_ kind) (s : ByteArray) (hs : s.size ≤ 1000000000000) : Ev (fun k => impl_digest.f k kind s) (dig kind s) := by
  obtain ⟨h0, h1⟩ := hk
  have e1 : impl_newMix.f kind = some (kind + 1, kind + 1, 0) := by
    unfold impl_newMix.f
    rw [w64 (x := kind) (by omega) (by omega), w64 (by omega) (by omega)]
  have hp : InP (kind + 1, kind + 1) := by unfold InP; refine ⟨?_, ?_, ?_, ?_⟩ <;> simp only <;> omega
  obtain ⟨K, h⟩ := feed_impl s hs 0 (by omega) s.size 0 (kind + 1) (kind + 1) (by omega) hp
  refine ⟨K, fun k hk => ?_⟩
  have h' := h k hk
  dsimp only at h'
  rw [show ((0 : Nat) : Int) = 0 from rfl] at h'
  have hq := dfold_in hp s.toList
  unfold impl_digest.f impl_Mix_feed.f impl_Mix_end.f
  simp only [e1, Option.bind_some]
  rw [h']
  simp only [Option.bind_some, List.drop_zero]
  unfold dig four
  generalize dfold (kind + 1, kind + 1) s.toList = p at hq ⊢
  obtain ⟨q0, q1, q2, q3⟩ := hq
  rw [Int.tdiv_eq_ediv_of_nonneg q2, Int.tdiv_eq_ediv_of_nonneg q0, Int.tmod_eq_emod_of_nonneg q2, Int.tmod_eq_emod_of_nonneg q0, w64 (x := p.2 / 256) (by omega) (by omega), w64 (x := p.1 / 256) (by omega) (by omega)]
  rw [Int.emod_emod_of_dvd p.2 (Int.dvd_refl _), Int.emod_emod_of_dvd p.1 (Int.dvd_refl _)]
def one (n : Int) : ByteArray := strOfNums [n % 256]
end Go.Proofs.Ytleegjkloclolaa.PD
end
section
namespace Go.Proofs.Ytleegjkloclolaa.PK
open Go.RowKit Go.Proofs.YtleegjkloclolaaW.PrintWords Go.Proofs.YtleegjkloclolaaW.PrintLast Go.Proofs.YtleegjkloclolaaW.PrintMore Go.Proofs.Ytleegjkloclolaa.PB Go.Proofs.Ytleegjkloclolaa.PD Go.Proofs.Ytleegjkloclolaa.PA
set_option linter.unusedVariables false
theorem app_size (a b : ByteArray) : (a ++ b).size = a.size + b.size := ByteArray.size_append
end Go.Proofs.Ytleegjkloclolaa.PK
end
section
namespace Go.Proofs.Ytleegjkloclolaa.PL
open Go.RowKit Go.Proofs.YtleegjkloclolaaW.PrintWords Go.Proofs.YtleegjkloclolaaW.PrintLast Go.Proofs.YtleegjkloclolaaW.PrintMore Go.Proofs.Ytleegjkloclolaa.PB Go.Proofs.Ytleegjkloclolaa.PA
set_option linter.unusedVariables false
theorem rdOf_at {α : Type} (d : α) (l : List α) (i : Nat) (h : i < l.length) : rdOf d l (i : Int) = l[i] := by
  simp [rdOf, List.getD_eq_getElem?_getD, List.getElem?_eq_getElem h]
def filled {α β : Type} (f : α → β) (z : β) (l : List α) (i : Nat) : List β := (l.take i).map f ++ List.replicate (l.length - i) z
theorem filled_length {α β : Type} (f : α → β) (z : β) (l : List α) (i : Nat) (h : i ≤ l.length) : (filled f z l i).length = l.length := by
  simp [filled, Nat.min_eq_left h]; omega
theorem filled_zero {α β : Type} (f : α → β) (z : β) (l : List α) : filled f z l 0 = List.replicate l.length z := by simp [filled]
theorem filled_all {α β : Type} (f : α → β) (z : β) (l : List α) : filled f z l l.length = l.map f := by simp [filled]
theorem filled_set {α β : Type} (f : α → β) (z : β) (l : List α) (i : Nat) (h : i < l.length) : (filled f z l i).set i (f l[i]) = filled f z l (i + 1) := by
  unfold filled
  rw [List.take_succ_eq_append_getElem h, List.map_append, List.map_cons, List.map_nil]
  have hl : ((l.take i).map f).length = i := by simp [Nat.min_eq_left (Nat.le_of_lt h)]
  obtain ⟨m, hm⟩ : ∃ m, l.length - i = m + 1 := ⟨l.length - i - 1, by omega⟩
  rw [hm, List.replicate_succ, List.set_append_right _ _ (by omega), hl, Nat.sub_self, List.set_cons_zero, show l.length - (i + 1) = m by omega]
  simp
theorem toS (l : List ByteArray) (hl : l.length ≤ 2000000) : Ev (fun k => laws_toStringS.f k l) l := by
  have key : ∀ (d i : Nat), i + d = l.length → Ev (fun k => laws_toStringS.l0 k l (filled (fun x => x) ⟨#[]⟩ l i) (i : Int)) l := by
    intro d
    induction d with
    | zero =>
      intro i hi
      have hi' : i = l.length := by omega
      subst hi'
      refine Ev.step (f := fun _ => some l) (fun k => ?_) (Ev.now _)
      simp only [laws_toStringS.l0]
      rw [if_neg (by omega), filled_all]
      simp
    | succ d ih =>
      intro i hi
      have hlt : i < l.length := by omega
      refine Ev.step (f := fun k => laws_toStringS.l0 k l (filled (fun x => x) ⟨#[]⟩ l (i + 1)) ((i + 1 : Nat) : Int)) (fun k => ?_) (ih (i + 1) (by omega))
      simp only [laws_toStringS.l0]
      rw [if_pos (by omega), if_pos (by omega), if_pos (by rw [filled_length _ _ _ _ (by omega)]; omega), rdOf_at _ _ _ hlt, w64 (x := (i : Int) + 1) (by omega) (by omega)]
      rw [show ((i : Int)).toNat = i from by omega, filled_set (fun x => x) _ l i hlt]
      rfl
  refine Ev.congr (f := fun k => laws_toStringS.l0 k l (filled (fun x => x) ⟨#[]⟩ l 0) ((0 : Nat) : Int)) (fun k => ?_) (key l.length 0 (by omega))
  simp only [laws_toStringS.f]
  rw [if_pos (by omega), if_pos (by omega), filled_zero]
  rfl
theorem eqS_yes (l : List ByteArray) (hl : l.length ≤ 2000000) : Ev (fun k => laws_eqStringS.f k l l) true := by
  have key : ∀ (d i : Nat), i + d = l.length → Ev (fun k => laws_eqStringS.l0 k l l (i : Int)) true := by
    intro d
    induction d with
    | zero =>
      intro i hi
      refine Ev.step (f := fun _ => some true) (fun k => ?_) (Ev.now _)
      simp only [laws_eqStringS.l0]
      rw [if_neg (by omega)]
    | succ d ih =>
      intro i hi
      refine Ev.step (f := fun k => laws_eqStringS.l0 k l l ((i + 1 : Nat) : Int)) (fun k => ?_) (ih (i + 1) (by omega))
      simp only [laws_eqStringS.l0]
      rw [if_pos (by omega), if_pos (by omega), if_pos (by omega), if_pos trivial, w64 (x := (i : Int) + 1) (by omega) (by omega)]
      rfl
  refine Ev.congr (f := fun k => laws_eqStringS.l0 k l l ((0 : Nat) : Int)) (fun k => ?_) (key l.length 0 (by omega))
  simp only [laws_eqStringS.f]
  rw [if_pos trivial]
  rfl
def szL : List ByteArray → Nat
  | [] => 0
  | s :: l => s.size + szL l
def total (l : List ByteArray) : Nat := l.length + szL l
def Fit (l : List ByteArray) : Prop := l.length ≤ 9223372036854775807 ∧ ∀ s ∈ l, s.size ≤ 9223372036854775807
theorem szS_loop (l : List ByteArray) (hf : Fit l) : ∀ (d i : Nat) (R : Int), i + d = l.length → 0 ≤ R → R ≤ 1000000000000 → l.length ≤ 1000000000000 →
    Ev (fun k => laws_szStringS.l0 k l R (i : Int)) (if (szL (l.drop i) : Int) ≤ R then R - szL (l.drop i) else -1) := by
  intro d
  induction d with
  | zero =>
    intro i R hi h0 h1 h2
    rw [List.drop_eq_nil_of_le (by omega)]
    refine Ev.step (f := fun _ => some R) (fun k => ?_) ?_
    · simp only [laws_szStringS.l0]
      rw [if_neg (by omega)]
    · rw [show szL [] = 0 from rfl, if_pos (by omega)]
      exact ev_eq (Ev.now R) (by omega)
  | succ d ih =>
    intro i R hi h0 h1 h2
    have hlt : i < l.length := by omega
    have hs := hf.2 _ (List.getElem_mem hlt)
    rw [List.drop_eq_getElem_cons hlt, show szL (l[i] :: l.drop (i + 1)) = l[i].size + szL (l.drop (i + 1)) from rfl]
    by_cases hc : (l[i].size : Int) ≤ R
    · refine Ev.step (f := fun k => laws_szStringS.l0 k l (R - l[i].size) ((i + 1 : Nat) : Int)) (fun k => ?_) ?_
      · simp only [laws_szStringS.l0]
        rw [if_pos (by omega), if_pos (by omega), rdOf_at _ _ _ hlt, w64 (x := R - (l[i].size : Int)) (by omega) (by omega), if_neg (by omega), w64 (x := (i : Int) + 1) (by omega) (by omega)]
        rfl
      · refine ev_eq (ih (i + 1) (R - l[i].size) (by omega) (by omega) (by omega) h2) ?_
        by_cases hd : (szL (l.drop (i + 1)) : Int) ≤ R - l[i].size
        · rw [if_pos hd, if_pos (by omega)]; omega
        · rw [if_neg hd, if_neg (by omega)]
    · refine Ev.step (f := fun _ => some (-1)) (fun k => ?_) ?_
      · simp only [laws_szStringS.l0]
        rw [if_pos (by omega), if_pos (by omega), rdOf_at _ _ _ hlt, w64 (x := R - (l[i].size : Int)) (by omega) (by omega), if_pos (by omega)]
      · rw [if_neg (by omega)]
        exact Ev.now _
theorem szS (l : List ByteArray) (hf : Fit l) (R : Int) (h0 : 0 ≤ R) (h1 : R ≤ 1000000000) : Ev (fun k => laws_szStringS.f k l R) (if (total l : Int) ≤ R then R - total l else -1) := by
  have hl := hf.1
  by_cases hc : (l.length : Int) ≤ R
  · refine Ev.congr (f := fun k => laws_szStringS.l0 k l (R - l.length) ((0 : Nat) : Int)) (fun k => ?_) ?_
    · simp only [laws_szStringS.f]
      rw [w64 (x := R - (l.length : Int)) (by omega) (by omega), if_neg (by omega)]
      rfl
    · refine ev_eq (szS_loop l hf l.length 0 (R - l.length) (by omega) (by omega) (by omega) (by omega)) ?_
      rw [List.drop_zero]
      unfold total
      by_cases hd : (szL l : Int) ≤ R - l.length
      · rw [if_pos hd, if_pos (by omega)]; omega
      · rw [if_neg hd, if_neg (by omega)]
  · refine Ev.congr (f := fun _ => some (-1)) (fun k => ?_) ?_
    · simp only [laws_szStringS.f]
      rw [w64 (x := R - (l.length : Int)) (by omega) (by omega), if_pos (by omega)]
    · unfold total
      rw [if_neg (by omega)]
      exact Ev.now _
end Go.Proofs.Ytleegjkloclolaa.PL
end
section
namespace Go.Proofs.Ytleegjkloclolaa.PS
open Go.RowKit Go.Proofs.YtleegjkloclolaaW.PrintWords Go.Proofs.YtleegjkloclolaaW.PrintLast Go.Proofs.YtleegjkloclolaaW.PrintMore Go.Proofs.Ytleegjkloclolaa.PB Go.Proofs.Ytleegjkloclolaa.PD Go.Proofs.Ytleegjkloclolaa.PK Go.Proofs.Ytleegjkloclolaa.PL Go.Proofs.Ytleegjkloclolaa.PA
set_option linter.unusedVariables false
end Go.Proofs.Ytleegjkloclolaa.PS
end
section
namespace Go.Proofs.Ytleegjkloclolaa.PT
open Go.RowKit Go.Proofs.YtleegjkloclolaaW.PrintWords Go.Proofs.YtleegjkloclolaaW.PrintLast Go.Proofs.YtleegjkloclolaaW.PrintMore Go.Proofs.Ytleegjkloclolaa.PB Go.Proofs.Ytleegjkloclolaa.PD Go.Proofs.Ytleegjkloclolaa.PK Go.Proofs.Ytleegjkloclolaa.PL Go.Proofs.Ytleegjkloclolaa.PS Go.Proofs.Ytleegjkloclolaa.PA
set_option linter.unusedVariables false
theorem inS (a b c : Int) : spec_l1In.f a b c = some (decide (b ≤ a ∧ a ≤ c)) := by
  unfold spec_l1In.f
  by_cases h : a ≥ b
  · rw [if_pos h]; simp [show b ≤ a from h]
  · rw [if_neg h]; simp [show ¬ b ≤ a from h]
theorem inI (a b c : Int) : impl_within.f a b c = some (decide (b ≤ a ∧ a ≤ c)) := by
  unfold impl_within.f
  by_cases h : a ≥ b
  · rw [if_pos h]; simp [show b ≤ a from h]
  · rw [if_neg h]; simp [show ¬ b ≤ a from h]
end Go.Proofs.Ytleegjkloclolaa.PT
end
section
namespace Go.Proofs.Ytleegjkloclolaa.PU
open Go.RowKit Go.Proofs.YtleegjkloclolaaW.PrintWords Go.Proofs.YtleegjkloclolaaW.PrintLast Go.Proofs.YtleegjkloclolaaW.PrintMore Go.Proofs.Ytleegjkloclolaa.PB Go.Proofs.Ytleegjkloclolaa.PD Go.Proofs.Ytleegjkloclolaa.PK Go.Proofs.Ytleegjkloclolaa.PL Go.Proofs.Ytleegjkloclolaa.PS Go.Proofs.Ytleegjkloclolaa.PT Go.Proofs.Ytleegjkloclolaa.PA
set_option linter.unusedVariables false
theorem idx_any {α : Type} (l : List α) (rf : List α → Int → α) (hrf : ∀ i (h : i < l.length), rf l (i : Int) = l[i]) (L0 : Nat → List α → Int → Int → Option Int) (cl : Nat → α → Option Bool) (p : α → Bool)
    (hstep : ∀ k n i, L0 (k + 1) l n i = if i < n then (if 0 ≤ i then (if i < (l.length : Int) then ((cl k (rf l i)).bind fun t => if t = true then some i else L0 k l n (wrap64 (i + 1))) else none) else none) else some (-1))
    (hp : ∀ x ∈ l, Ev (fun k => cl k x) (p x)) (hl : l.length ≤ 4000000000000000000) : ∃ r, Ev (fun k => L0 k l (l.length : Int) 0) r ∧ decide (r ≥ 0) = l.any p := by
  have key : ∀ (d i : Nat), i + d = l.length → ∃ r, Ev (fun k => L0 k l (l.length : Int) (i : Int)) r ∧ decide (r ≥ 0) = (l.drop i).any p := by
    intro d
    induction d with
    | zero =>
      intro i hi
      refine ⟨-1, Ev.step (f := fun _ => some (-1)) (fun k => ?_) (Ev.now _), ?_⟩
      · rw [hstep, if_neg (by omega)]
      · rw [List.drop_eq_nil_of_le (by omega)]; rfl
    | succ d ih =>
      intro i hi
      have hlt : i < l.length := by omega
      have hpx := hp _ (List.getElem_mem hlt)
      rw [List.drop_eq_getElem_cons hlt, List.any_cons]
      have st : ∀ k, L0 (k + 1) l (l.length : Int) (i : Int) = (cl k l[i]).bind fun t => if t = true then some (i : Int) else L0 k l (l.length : Int) ((i + 1 : Nat) : Int) := by
        intro k
        rw [hstep, if_pos (by omega), if_pos (by omega), if_pos (by omega), hrf i hlt, w64 (x := (i : Int) + 1) (by omega) (by omega)]
        rfl
      cases hb : p l[i] with
      | true =>
        rw [hb] at hpx
        refine ⟨(i : Int), Ev.step (f := fun k => (cl k l[i]).bind fun t => if t = true then some (i : Int) else L0 k l (l.length : Int) ((i + 1 : Nat) : Int)) st (ev_bind hpx (ev_pos rfl (Ev.now _))), ?_⟩
        simp only [Bool.true_or]
        exact decide_eq_true (by omega)
      | false =>
        rw [hb] at hpx
        obtain ⟨r, hr, e⟩ := ih (i + 1) (by omega)
        refine ⟨r, Ev.step (f := fun k => (cl k l[i]).bind fun t => if t = true then some (i : Int) else L0 k l (l.length : Int) ((i + 1 : Nat) : Int)) st (ev_bind hpx (ev_neg (by simp) hr)), ?_⟩
        rw [Bool.false_or]; exact e
  obtain ⟨r, hr, e⟩ := key l.length 0 (by omega)
  exact ⟨r, hr, by rw [e, List.drop_zero]⟩
def all4 (l : List ByteArray) : Bool := l.all fun s => decide (s.size = 4)
theorem isDigI (s : ByteArray) : impl_isDigest.f s = some (decide (s.size = 4)) := by
  unfold impl_isDigest.f
  refine congrArg some ?_
  by_cases h : s.size = 4
  · rw [decide_eq_true h, h]; rfl
  · rw [decide_eq_false h]; exact beq_eq_false_iff_ne.mpr (by omega)
theorem any_not_all4 (l : List ByteArray) : (l.any fun s => !decide (s.size = 4)) = !all4 l := by
  induction l with
  | nil => rfl
  | cons a l ih => simp only [List.any_cons, all4, List.all_cons, Bool.not_and]; rw [ih]; rfl
theorem areDigI (l : List ByteArray) (m : Int) (hl : l.length ≤ 4000000000000000000) : Ev (fun k => impl_areDigests.f k l m) (decide ((l.length : Int) = m) && all4 l) := by
  unfold impl_areDigests.f
  by_cases h : (l.length : Int) = m
  · refine ev_pos h ?_
    obtain ⟨r, hr, e⟩ := idx_any l (fun l i => rdOf ByteArray.empty l i) (fun i h => rdOf_at _ l i h) slices_IndexFunc_impl_areDigests_1.l0 (fun _ s => impl_areDigests_1.f s) (fun s => !decide (s.size = 4)) (fun k n i => rfl) (fun x _ => ev_of_eq (by unfold impl_areDigests_1.f; rw [isDigI]; rfl)) hl
    have hc : Ev (fun k => slices_ContainsFunc_impl_areDigests_1.f k l) (!all4 l) := by
      rw [← any_not_all4, ← e]
      exact ev_bind (f := fun _ t => some (decide (t ≥ 0))) hr (Ev.now _)
    refine ev_eq (ev_bind (f := fun _ t => some (!t)) hc (Ev.now _)) ?_
    rw [decide_eq_true h, Bool.true_and, Bool.not_not]
  · refine ev_neg h ?_
    rw [decide_eq_false h]
    exact Ev.now _
end Go.Proofs.Ytleegjkloclolaa.PU
end
section
namespace Go.Proofs.Ytleegjkloclolaa.PG
open Go.RowKit Go.Proofs.YtleegjkloclolaaW.PrintWords Go.Proofs.YtleegjkloclolaaW.PrintLast Go.Proofs.YtleegjkloclolaaW.PrintMore Go.Proofs.Ytleegjkloclolaa.PB Go.Proofs.Ytleegjkloclolaa.PL
set_option linter.unusedVariables false
theorem loop_up {β : Type} {r : β} (n : Nat) (S : Nat → Nat → Option β) (hend : Ev (S n) r) (hround : ∀ i, i < n → Ev (S (i + 1)) r → Ev (S i) r) : Ev (S 0) r := by
  have key : ∀ d i, i + d = n → Ev (S i) r := by
    intro d
    induction d with
    | zero => intro i hi; rw [show i = n by omega]; exact hend
    | succ d ih => intro i hi; exact hround i (by omega) (ih (i + 1) (by omega))
  exact key n 0 (by omega)
def left (R : Int) (w : Nat) : Int := if (w : Int) ≤ R then R - w else -1
theorem left_yes {R : Int} {w : Nat} (h : (w : Int) ≤ R) : left R w = R - w := if_pos h
theorem left_no {R : Int} {w : Nat} (h : ¬ (w : Int) ≤ R) : left R w = -1 := if_neg h
end Go.Proofs.Ytleegjkloclolaa.PG
end
section
namespace Go.Proofs.Ytleegjkloclolaa.PQ
open Go.RowKit Go.Proofs.YtleegjkloclolaaW.PrintWords Go.Proofs.YtleegjkloclolaaW.PrintLast Go.Proofs.YtleegjkloclolaaW.PrintMore Go.Proofs.Ytleegjkloclolaa.PB Go.Proofs.Ytleegjkloclolaa.PD Go.Proofs.Ytleegjkloclolaa.PK Go.Proofs.Ytleegjkloclolaa.PL Go.Proofs.Ytleegjkloclolaa.PS Go.Proofs.Ytleegjkloclolaa.PT Go.Proofs.Ytleegjkloclolaa.PU Go.Proofs.Ytleegjkloclolaa.PG Go.Proofs.Ytleegjkloclolaa.PA
set_option linter.unusedVariables false
end Go.Proofs.Ytleegjkloclolaa.PQ
end
section
namespace Go.Proofs.Ytleegjkloclolaa.PV
open Go.RowKit Go.Proofs.YtleegjkloclolaaW.PrintWords Go.Proofs.YtleegjkloclolaaW.PrintLast Go.Proofs.YtleegjkloclolaaW.PrintMore Go.Proofs.Ytleegjkloclolaa.PB Go.Proofs.Ytleegjkloclolaa.PD Go.Proofs.Ytleegjkloclolaa.PK Go.Proofs.Ytleegjkloclolaa.PL Go.Proofs.Ytleegjkloclolaa.PS Go.Proofs.Ytleegjkloclolaa.PT Go.Proofs.Ytleegjkloclolaa.PU Go.Proofs.Ytleegjkloclolaa.PG Go.Proofs.Ytleegjkloclolaa.PQ Go.Proofs.Ytleegjkloclolaa.PA
set_option linter.unusedVariables false
end Go.Proofs.Ytleegjkloclolaa.PV
end
section
namespace Go.Proofs.Ytleegjkloclolaa.PW
open Go.RowKit Go.Proofs.YtleegjkloclolaaW.PrintWords Go.Proofs.YtleegjkloclolaaW.PrintLast Go.Proofs.YtleegjkloclolaaW.PrintMore Go.Proofs.Ytleegjkloclolaa.PB Go.Proofs.Ytleegjkloclolaa.PD Go.Proofs.Ytleegjkloclolaa.PK Go.Proofs.Ytleegjkloclolaa.PL Go.Proofs.Ytleegjkloclolaa.PS Go.Proofs.Ytleegjkloclolaa.PT Go.Proofs.Ytleegjkloclolaa.PU Go.Proofs.Ytleegjkloclolaa.PG Go.Proofs.Ytleegjkloclolaa.PQ Go.Proofs.Ytleegjkloclolaa.PV Go.Proofs.Ytleegjkloclolaa.PA
set_option linter.unusedVariables false
noncomputable def ch (P : Prop) : Bool := @decide P (Classical.propDecidable P)
theorem ch_yes {P : Prop} (h : P) : ch P = true := @decide_eq_true P (Classical.propDecidable P) h
theorem ch_no {P : Prop} (h : ¬ P) : ch P = false := @decide_eq_false P (Classical.propDecidable P) h
theorem loop_yes {β : Type} (n : Nat) (S : Nat → Nat → Option β) (Q : Nat → Prop) (b : β) (hround : ∀ r i, i < n → Q i → Ev (S (i + 1)) r → Ev (S i) r) (hend : Ev (S n) b) (hq : ∀ i, i < n → Q i) : Ev (S 0) b :=
  loop_up n S hend (fun i hi h => hround b i hi (hq i hi) h)
theorem loop_no {β : Type} (n : Nat) (S : Nat → Nat → Option β) (Q : Nat → Prop) (no : β) (hround : ∀ r i, i < n → Q i → Ev (S (i + 1)) r → Ev (S i) r) (hno : ∀ i, i < n → ¬ Q i → Ev (S i) no) (hq : ¬ ∀ i, i < n → Q i) : Ev (S 0) no := by
  refine Classical.byContradiction fun hc => hq ?_
  have key : ∀ i, i ≤ n → (¬ Ev (S i) no) ∧ ∀ j, j < i → Q j := by
    intro i
    induction i with
    | zero => intro _; exact ⟨hc, fun j hj => absurd hj (Nat.not_lt_zero j)⟩
    | succ i ih =>
      intro hi
      obtain ⟨h1, h2⟩ := ih (by omega)
      have hQ : Q i := Classical.byContradiction fun h => h1 (hno i (by omega) h)
      refine ⟨fun h => h1 (hround no i (by omega) hQ h), fun j hj => ?_⟩
      by_cases e : j = i
      · subst e; exact hQ
      · exact h2 j (by omega)
  exact (key n (Nat.le_refl n)).2
theorem has_str (l : List ByteArray) (L0 : Nat → List ByteArray → Int → Int → Option Int) (cl : Nat → ByteArray → Option Bool) (p : ByteArray → Bool)
    (hstep : ∀ k n i, L0 (k + 1) l n i = if i < n then (if 0 ≤ i then (if i < (l.length : Int) then ((cl k (rdOf ByteArray.empty l i)).bind fun t => if t = true then some i else L0 k l n (wrap64 (i + 1))) else none) else none) else some (-1))
    (hp : ∀ x ∈ l, Ev (fun k => cl k x) (p x)) (hl : l.length ≤ 4000000000000000000) : Ev (fun k => (L0 k l (l.length : Int) 0).bind fun t => some (decide (t ≥ 0))) (l.any p) := by
  obtain ⟨r, hr, e⟩ := idx_any l (fun l i => rdOf ByteArray.empty l i) (fun i h => rdOf_at _ l i h) L0 cl p hstep hp hl
  rw [← e]
  exact ev_bind (f := fun _ t => some (decide (t ≥ 0))) hr (Ev.now _)
theorem not_any {α : Type} (p : α → Bool) : ∀ l : List α, (l.any fun s => !p s) = !(l.all p) := by
  intro l
  induction l with
  | nil => rfl
  | cons x l ih => simp only [List.any_cons, List.all_cons, Bool.not_and, ih]
theorem all_at (l : List ByteArray) (p : ByteArray → Bool) : l.all p = true ↔ ∀ i, i < l.length → p (rdOf ByteArray.empty l (i : Int)) = true := by
  rw [List.all_eq_true]
  constructor
  · intro h i hi
    rw [rdOf_at _ _ _ hi]
    exact h _ (List.getElem_mem hi)
  · intro h x hx
    obtain ⟨i, hi, e⟩ := List.getElem_of_mem hx
    have := h i hi
    rw [rdOf_at _ _ _ hi, e] at this
    exact this
def keyB (s : ByteArray) : Bool := decide (1 ≤ (s.size : Int) ∧ (s.size : Int) ≤ 12)
def valB (s : ByteArray) : Bool := decide ((s.size : Int) ≤ 12)
theorem keyI (s : ByteArray) : impl_isKey.f s = some (keyB s) := by
  unfold impl_isKey.f; rw [inI]; rfl
theorem empty_iff (a : ByteArray) : a.toList = ([] : List UInt8) ↔ a.size = 0 := by
  rw [← size_toList]
  constructor
  · intro h; rw [h]; rfl
  · intro h; exact List.length_eq_zero_iff.mp h
theorem pairS (a b : ByteArray) : spec_l5Pair.f a b = some (keyB a && valB b) := by
  unfold spec_l5Pair.f spec_l5Text.f keyB valB
  simp only [Option.bind_some]
  by_cases h1 : (a.size : Int) ≤ 12
  · rw [if_pos (decide_eq_true h1)]
    by_cases h2 : (b.size : Int) ≤ 12
    · rw [if_pos (decide_eq_true h2), decide_eq_true h2, Bool.and_true]
      by_cases h3 : a.size = 0
      · rw [(empty_iff a).2 h3, decide_eq_false (by omega)]; rfl
      · have : a.toList ≠ [] := fun h => h3 ((empty_iff a).1 h)
        rw [decide_eq_true ⟨by omega, h1⟩]
        exact congrArg some (by simp [this])
    · rw [if_neg (by simp [h2]), decide_eq_false h2, Bool.and_false]
  · rw [if_neg (by simp [h1]), decide_eq_false (fun h => h1 h.2)]; rfl
abbrev tx (l : List ByteArray) (i : Nat) : ByteArray := rdOf ByteArray.empty l (i : Int)
def risesAt (K : List ByteArray) (i : Nat) : Prop := 0 < i → Op.bytesLess (tx K (i - 1)).toList (tx K i).toList = true
def pageOk (K V C : List ByteArray) (g : Int) : Prop := K.length ≤ 4 ∧ V.length = K.length ∧ (∀ i, i < K.length → keyB (tx K i) = true ∧ risesAt K i) ∧ V.all valB = true ∧ (C.length = 0 ∨ C.length = K.length + 1) ∧ all4 C = true ∧ (0 ≤ g ∧ g ≤ (K.length : Int))
theorem risingI (K : List ByteArray) (hK : K.length ≤ 2000000) : Ev (fun k => impl_areRising.f k K) (ch (∀ i, i < K.length → keyB (tx K i) = true ∧ risesAt K i)) := by
  have round : ∀ (r : Bool) i, i < K.length → (keyB (tx K i) = true ∧ risesAt K i) → Ev (fun k => impl_areRising.l0 k K K (K.length : Int) ((i + 1 : Nat) : Int)) r → Ev (fun k => impl_areRising.l0 k K K (K.length : Int) (i : Int)) r := by
    intro r i hi hq h
    refine Ev.step (f := fun k => impl_areRising.l0 k K K (K.length : Int) ((i + 1 : Nat) : Int)) (fun k => ?_) h
    simp only [impl_areRising.l0]
    rw [if_pos (by omega), if_pos (by omega), if_pos (by omega), keyI, w64 (x := (i : Int) + 1) (by omega) (by omega)]
    simp only [Option.bind_some]
    rw [if_pos hq.1]
    by_cases h0 : 0 < i
    · rw [if_pos (by omega), w64 (x := (i : Int) - 1) (by omega) (by omega), if_pos (by omega), if_pos (by omega), show (i : Int) - 1 = ((i - 1 : Nat) : Int) by omega, if_pos (hq.2 h0)]; rfl
    · rw [if_neg (by omega)]; rfl
  have stop : ∀ i, i < K.length → ¬ (keyB (tx K i) = true ∧ risesAt K i) → Ev (fun k => impl_areRising.l0 k K K (K.length : Int) (i : Int)) false := by
    intro i hi hq
    refine Ev.step (f := fun _ => some false) (fun k => ?_) (Ev.now _)
    simp only [impl_areRising.l0]
    rw [if_pos (by omega), if_pos (by omega), if_pos (by omega), keyI]
    simp only [Option.bind_some]
    by_cases hk : keyB (tx K i) = true
    · rw [if_pos hk]
      have h0 : 0 < i := Classical.byContradiction fun h => hq ⟨hk, fun h' => absurd h' h⟩
      rw [if_pos (by omega), w64 (x := (i : Int) - 1) (by omega) (by omega), if_pos (by omega), if_pos (by omega), show (i : Int) - 1 = ((i - 1 : Nat) : Int) by omega, if_neg (fun h => hq ⟨hk, fun _ => h⟩)]
    · rw [if_neg hk]
  by_cases h : ∀ i, i < K.length → keyB (tx K i) = true ∧ risesAt K i
  · rw [ch_yes h]
    exact loop_yes K.length (fun i k => impl_areRising.l0 k K K (K.length : Int) (i : Int)) _ true round (Ev.step (f := fun _ => some true) (fun k => by simp only [impl_areRising.l0]; rw [if_neg (by omega)]) (Ev.now _)) h
  · rw [ch_no h]
    exact loop_no K.length (fun i k => impl_areRising.l0 k K K (K.length : Int) (i : Int)) _ false round stop h
theorem valsI (V : List ByteArray) (hV : V.length ≤ 2000000) : Ev (fun k => slices_ContainsFunc_impl_arePairs_1.f k V) (!(V.all valB)) := by
  rw [← not_any]
  exact has_str V slices_IndexFunc_impl_arePairs_1.l0 (fun _ s => impl_arePairs_1.f s) (fun s => !valB s) (fun k n i => rfl) (fun x _ => Ev.now _) (by omega)
theorem pairsI (K V : List ByteArray) (hK : K.length ≤ 2000000) (hV : V.length ≤ 2000000) : Ev (fun k => impl_arePairs.f k K V) (ch (K.length ≤ 40 ∧ V.length = K.length ∧ (∀ i, i < K.length → keyB (tx K i) = true ∧ risesAt K i) ∧ V.all valB = true)) := by
  unfold impl_arePairs.f
  by_cases h1 : K.length ≤ 40
  · refine ev_pos (by omega) ?_
    by_cases h2 : V.length = K.length
    · refine ev_pos (by omega) (ev_bind (risingI K hK) ?_)
      by_cases h3 : ∀ i, i < K.length → keyB (tx K i) = true ∧ risesAt K i
      · rw [ch_yes h3]
        refine ev_pos rfl (ev_bind (valsI V hV) (ev_eq (Ev.now _) ?_))
        cases h4 : V.all valB with
        | true => exact (ch_yes ⟨h1, h2, h3, rfl⟩).symm
        | false => rw [ch_no (fun h => by simp at h)]; rfl
      · rw [ch_no h3]
        exact ev_eq (ev_neg (by simp) (Ev.now _)) (ch_no (fun h => h3 h.2.2.1)).symm
    · exact ev_eq (ev_neg (by omega) (Ev.now _)) (ch_no (fun h => h2 h.2.1)).symm
  · exact ev_eq (ev_neg (by omega) (Ev.now _)) (ch_no (fun h => h1 h.1)).symm
theorem goodShownI (K V C : List ByteArray) (g : Int) (hK : K.length ≤ 2000000) (hV : V.length ≤ 2000000) (hC : C.length ≤ 2000000) : Ev (fun k => impl_GoodShown.f k K V C g) (ch (pageOk K V C g)) := by
  unfold impl_GoodShown.f
  by_cases h1 : K.length ≤ 4
  · refine ev_pos (by omega) (ev_bind (pairsI K V hK hV) ?_)
    by_cases hp : K.length ≤ 40 ∧ V.length = K.length ∧ (∀ i, i < K.length → keyB (tx K i) = true ∧ risesAt K i) ∧ V.all valB = true
    · rw [ch_yes hp]
      refine ev_pos rfl ?_
      have fin : ∀ (h5 : C.length = 0 ∨ C.length = K.length + 1) (h6 : all4 C = true), Ev (fun k => (impl_within.f g 0 (K.length : Int)).bind fun t => some t) (ch (pageOk K V C g)) := by
        intro h5 h6
        refine ev_const (inI _ _ _) (ev_eq (Ev.now _) ?_)
        by_cases h7 : 0 ≤ g ∧ g ≤ (K.length : Int)
        · rw [decide_eq_true h7]; exact (ch_yes ⟨h1, hp.2.1, hp.2.2.1, hp.2.2.2, h5, h6, h7⟩).symm
        · rw [decide_eq_false h7]; exact (ch_no (fun h => h7 h.2.2.2.2.2.2)).symm
      by_cases h4 : C.length = 0
      · refine ev_pos (by omega) (fin (Or.inl h4) ?_)
        rw [List.length_eq_zero_iff.mp h4]; rfl
      · refine ev_neg (by omega) ?_
        rw [w64 (x := (K.length : Int) + 1) (by omega) (by omega)]
        refine ev_bind (areDigI C _ (by omega)) ?_
        by_cases h5 : (decide ((C.length : Int) = (K.length : Int) + 1) && all4 C) = true
        · rw [h5]
          simp only [Bool.and_eq_true, decide_eq_true_eq] at h5
          exact ev_pos rfl (fin (Or.inr (by omega)) h5.2)
        · refine ev_neg h5 (ev_eq (Ev.now _) (ch_no (fun h => h5 ?_)).symm)
          obtain ⟨_, _, _, _, h8, h9, _⟩ := h
          rw [h9, Bool.and_true]
          exact decide_eq_true (by omega)
    · rw [ch_no hp]
      exact ev_eq (ev_neg (by simp) (Ev.now _)) (ch_no (fun h => hp ⟨by omega, h.2.1, h.2.2.1, h.2.2.2.1⟩)).symm
  · exact ev_eq (ev_neg (by omega) (Ev.now _)) (ch_no (fun h => h1 h.1)).symm
theorem goodShownS (K V C : List ByteArray) (g : Int) (hK : K.length ≤ 2000000) (hV : V.length ≤ 2000000) (hC : C.length ≤ 2000000) : Ev (fun k => spec_GoodShown.f k K V C g) (ch (pageOk K V C g)) := by
  have endS : (∀ i, i < K.length → (i < V.length ∧ valB (tx V i) = true) ∧ keyB (tx K i) = true ∧ risesAt K i) → Ev (fun k => spec_GoodShown.l1 k C (C.length : Int) 0 K V C g) (ch (pageOk K V C g)) := by
    intro hA
    have round : ∀ (r : Bool) i, i < C.length → (tx C i).size = 4 → Ev (fun k => spec_GoodShown.l1 k C (C.length : Int) ((i + 1 : Nat) : Int) K V C g) r → Ev (fun k => spec_GoodShown.l1 k C (C.length : Int) (i : Int) K V C g) r := by
      intro r i hi hq h
      refine Ev.step (f := fun k => spec_GoodShown.l1 k C (C.length : Int) ((i + 1 : Nat) : Int) K V C g) (fun k => ?_) h
      simp only [spec_GoodShown.l1]
      rw [if_pos (by omega), if_pos (by omega), if_pos (by omega), if_pos (show ((rdOf ByteArray.empty C (i : Int)).size : Int) = 4 from by have : (rdOf ByteArray.empty C (i : Int)).size = 4 := hq; omega), w64 (x := (i : Int) + 1) (by omega) (by omega)]
      rfl
    by_cases h6 : ∀ i, i < C.length → (tx C i).size = 4
    · have h6' : all4 C = true := (all_at C _).2 (fun i hi => decide_eq_true (h6 i hi))
      refine loop_yes C.length (fun i k => spec_GoodShown.l1 k C (C.length : Int) (i : Int) K V C g) _ _ round ?_ h6
      refine Ev.step (f := fun k => if (K.length : Int) ≤ 4 then (if (V.length : Int) = (K.length : Int) then (if (C.length : Int) = 0 then ((spec_l1In.f g 0 (K.length : Int)).bind fun t252 => (some t252)) else (if (C.length : Int) = (wrap64 ((K.length : Int) + 1)) then ((spec_l1In.f g 0 (K.length : Int)).bind fun t253 => (some t253)) else (some false))) else (some false)) else (some false)) (fun k => by simp only [spec_GoodShown.l1]; rw [if_neg (by omega)]) ?_
      by_cases h1 : K.length ≤ 4
      · refine ev_pos (by omega) ?_
        by_cases h2 : V.length = K.length
        · refine ev_pos (by omega) ?_
          have hv : V.all valB = true := (all_at V _).2 (fun i hi => (hA i (by omega)).1.2)
          have hk : ∀ i, i < K.length → keyB (tx K i) = true ∧ risesAt K i := fun i hi => (hA i hi).2
          have fin : ∀ (h5 : C.length = 0 ∨ C.length = K.length + 1), Ev (fun k => (spec_l1In.f g 0 (K.length : Int)).bind fun t => some t) (ch (pageOk K V C g)) := by
            intro h5
            refine ev_const (inS _ _ _) (ev_eq (Ev.now _) ?_)
            by_cases h7 : 0 ≤ g ∧ g ≤ (K.length : Int)
            · rw [decide_eq_true h7]; exact (ch_yes ⟨h1, h2, hk, hv, h5, h6', h7⟩).symm
            · rw [decide_eq_false h7]; exact (ch_no (fun h => h7 h.2.2.2.2.2.2)).symm
          by_cases h4 : C.length = 0
          · exact ev_pos (by omega) (fin (Or.inl h4))
          · refine ev_neg (by omega) ?_
            rw [w64 (x := (K.length : Int) + 1) (by omega) (by omega)]
            by_cases h5 : C.length = K.length + 1
            · exact ev_pos (by omega) (fin (Or.inr h5))
            · exact ev_eq (ev_neg (by omega) (Ev.now _)) (ch_no (fun h => by have := h.2.2.2.2.1; omega)).symm
        · exact ev_eq (ev_neg (by omega) (Ev.now _)) (ch_no (fun h => h2 h.2.1)).symm
      · exact ev_eq (ev_neg (by omega) (Ev.now _)) (ch_no (fun h => h1 h.1)).symm
    · rw [ch_no (fun h => h6 (fun i hi => of_decide_eq_true ((all_at C _).1 h.2.2.2.2.2.1 i hi)))]
      refine loop_no C.length (fun i k => spec_GoodShown.l1 k C (C.length : Int) (i : Int) K V C g) _ false round (fun i hi hq => ?_) h6
      refine Ev.step (f := fun _ => some false) (fun k => ?_) (Ev.now _)
      simp only [spec_GoodShown.l1]
      rw [if_pos (by omega), if_pos (by omega), if_pos (by omega), if_neg (show ¬ ((rdOf ByteArray.empty C (i : Int)).size : Int) = 4 from by have : ¬ (rdOf ByteArray.empty C (i : Int)).size = 4 := hq; omega)]
  have round : ∀ (r : Bool) i, i < K.length → ((i < V.length ∧ valB (tx V i) = true) ∧ keyB (tx K i) = true ∧ risesAt K i) → Ev (fun k => spec_GoodShown.l0 k K (K.length : Int) ((i + 1 : Nat) : Int) K V C g) r → Ev (fun k => spec_GoodShown.l0 k K (K.length : Int) (i : Int) K V C g) r := by
    intro r i hi hq h
    refine Ev.step (f := fun k => spec_GoodShown.l0 k K (K.length : Int) ((i + 1 : Nat) : Int) K V C g) (fun k => ?_) h
    have hb : (keyB (tx K i) && valB (tx V i)) = true := by rw [hq.1.2, hq.2.1]; rfl
    have hi2 := hq.1.1
    simp only [spec_GoodShown.l0]
    rw [if_pos (by omega), if_pos (by omega), if_pos (by omega), if_neg (by omega), if_pos (by omega), pairS, w64 (x := (i : Int) + 1) (by omega) (by omega)]
    simp only [Option.bind_some]
    rw [if_pos hb]
    by_cases h0 : 0 < i
    · rw [if_pos (by omega), w64 (x := (i : Int) - 1) (by omega) (by omega), if_pos (by omega), if_pos (by omega), show (i : Int) - 1 = ((i - 1 : Nat) : Int) by omega, if_pos (hq.2.2 h0)]; rfl
    · rw [if_neg (by omega)]; rfl
  have stop : ∀ i, i < K.length → ¬ ((i < V.length ∧ valB (tx V i) = true) ∧ keyB (tx K i) = true ∧ risesAt K i) → Ev (fun k => spec_GoodShown.l0 k K (K.length : Int) (i : Int) K V C g) false := by
    intro i hi hq
    refine Ev.step (f := fun _ => some false) (fun k => ?_) (Ev.now _)
    simp only [spec_GoodShown.l0]
    rw [if_pos (by omega), if_pos (by omega), if_pos (by omega)]
    by_cases hi2 : i < V.length
    · rw [if_neg (by omega), if_pos (by omega), pairS]
      simp only [Option.bind_some]
      by_cases hb : (keyB (tx K i) && valB (tx V i)) = true
      · rw [if_pos hb]
        rw [Bool.and_eq_true] at hb
        have h0 : 0 < i := Classical.byContradiction fun h => hq ⟨⟨hi2, hb.2⟩, hb.1, fun h' => absurd h' h⟩
        rw [if_pos (by omega), w64 (x := (i : Int) - 1) (by omega) (by omega), if_pos (by omega), if_pos (by omega), show (i : Int) - 1 = ((i - 1 : Nat) : Int) by omega, if_neg (fun h => hq ⟨⟨hi2, hb.2⟩, hb.1, fun _ => h⟩)]
      · rw [if_neg hb]
    · rw [if_pos (by omega)]
  by_cases hA : ∀ i, i < K.length → (i < V.length ∧ valB (tx V i) = true) ∧ keyB (tx K i) = true ∧ risesAt K i
  · exact loop_yes K.length (fun i k => spec_GoodShown.l0 k K (K.length : Int) (i : Int) K V C g) _ _ round (Ev.step (f := fun k => spec_GoodShown.l1 k C (C.length : Int) 0 K V C g) (fun k => by simp only [spec_GoodShown.l0]; rw [if_neg (by omega)]) (endS hA)) hA
  · refine ev_eq (loop_no K.length (fun i k => spec_GoodShown.l0 k K (K.length : Int) (i : Int) K V C g) _ false round stop hA) (ch_no (fun h => hA (fun i hi => ?_))).symm
    obtain ⟨_, h2, h3, h4, _⟩ := h
    exact ⟨⟨by omega, (all_at V _).1 h4 i (by omega)⟩, h3 i hi⟩
theorem bytes_l1 : ∀ k x C n i, impl_Shown_bytes.l1 k x C n i = spec_l6Bytes.l1 k x C n i := by
  intro k
  induction k with
  | zero => intros; rfl
  | succ k ih => intros; simp only [impl_Shown_bytes.l1, spec_l6Bytes.l1, ih]
theorem bytes_l0 : ∀ k x K0 n i K V C g, impl_Shown_bytes.l0 k x K0 n i K V C g = spec_l6Bytes.l0 k x K0 n i K V C g := by
  intro k
  induction k with
  | zero => intros; rfl
  | succ k ih => intros; simp only [impl_Shown_bytes.l0, spec_l6Bytes.l0, ih, bytes_l1, impl_oneByte.f, Option.bind_some]
theorem bytes_eq (k : Nat) (K V C : List ByteArray) (g : Int) : impl_Shown_bytes.f k K V C g = spec_l6Bytes.f k K V C g := by
  unfold impl_Shown_bytes.f spec_l6Bytes.f impl_oneByte.f
  simp only [Option.bind_some]
  exact bytes_l0 _ _ _ _ _ _ _ _ _
theorem bytesS (K V C : List ByteArray) (g : Int) (h : pageOk K V C g) : ∃ r, Ev (fun k => spec_l6Bytes.f k K V C g) r ∧ r.size ≤ 1000 := by
  obtain ⟨h1, h2, h3, h4, h5, h6, _⟩ := h
  have hc : C.length ≤ 5 := by omega
  have kids : ∀ (d i : Nat) (x : ByteArray), i + d = C.length → x.size ≤ 500 + 4 * i → ∃ r, Ev (fun k => spec_l6Bytes.l1 k x C (C.length : Int) (i : Int)) r ∧ r.size ≤ 1000 := by
    intro d
    induction d with
    | zero =>
      intro i x hi hx
      refine ⟨x, Ev.step (f := fun _ => some x) (fun k => ?_) (Ev.now _), by omega⟩
      simp only [spec_l6Bytes.l1]; rw [if_neg (by omega)]
    | succ d ih =>
      intro i x hi hx
      have hs : (rdOf ByteArray.empty C (i : Int)).size = 4 := of_decide_eq_true ((all_at C _).1 h6 i (by omega))
      obtain ⟨r, hr, hz⟩ := ih (i + 1) (x ++ rdOf ByteArray.empty C (i : Int)) (by omega) (by rw [app_size]; omega)
      refine ⟨r, Ev.step (f := fun k => spec_l6Bytes.l1 k (x ++ rdOf ByteArray.empty C (i : Int)) C (C.length : Int) ((i + 1 : Nat) : Int)) (fun k => ?_) hr, hz⟩
      simp only [spec_l6Bytes.l1]
      rw [if_pos (by omega), if_pos (by omega), if_pos (by omega), if_pos (by omega), w64 (x := (i : Int) + 1) (by omega) (by omega)]
      rfl
  have e1 : ∀ n : Int, (strOfNums [n % 256]).size = 1 := fun n => by rw [strOfNums_size]; rfl
  have pairs : ∀ (d i : Nat) (x : ByteArray), i + d = K.length → x.size ≤ 1 + 40 * i → ∃ r, Ev (fun k => spec_l6Bytes.l0 k x K (K.length : Int) (i : Int) K V C g) r ∧ r.size ≤ 1000 := by
    intro d
    induction d with
    | zero =>
      intro i x hi hx
      obtain ⟨r, hr, hz⟩ := kids C.length 0 (x ++ strOfNums [(C.length : Int) % 256]) (by omega) (by rw [app_size, e1]; omega)
      refine ⟨r, Ev.step (f := fun k => spec_l6Bytes.l1 k (x ++ strOfNums [(C.length : Int) % 256]) C (C.length : Int) ((0 : Nat) : Int)) (fun k => ?_) hr, hz⟩
      simp only [spec_l6Bytes.l0, Option.bind_some]
      rw [if_neg (by omega), if_pos (by rw [e1]; omega)]
      rfl
    | succ d ih =>
      intro i x hi hx
      have ks := of_decide_eq_true (h3 i (by omega)).1
      have vs := of_decide_eq_true ((all_at V _).1 h4 i (by omega))
      have ks' : (rdOf ByteArray.empty K (i : Int)).size ≤ 12 := by
        have : ((rdOf ByteArray.empty K (i : Int)).size : Int) ≤ 12 := ks.2
        omega
      have vs' : (rdOf ByteArray.empty V (i : Int)).size ≤ 12 := by omega
      obtain ⟨r, hr, hz⟩ := ih (i + 1) (x ++ (strOfNums [((rdOf ByteArray.empty K (i : Int)).size : Int) % 256] ++ rdOf ByteArray.empty K (i : Int) ++ strOfNums [((rdOf ByteArray.empty V (i : Int)).size : Int) % 256] ++ rdOf ByteArray.empty V (i : Int))) (by omega) (by simp only [app_size, e1]; omega)
      refine ⟨r, Ev.step (f := fun k => spec_l6Bytes.l0 k (x ++ (strOfNums [((rdOf ByteArray.empty K (i : Int)).size : Int) % 256] ++ rdOf ByteArray.empty K (i : Int) ++ strOfNums [((rdOf ByteArray.empty V (i : Int)).size : Int) % 256] ++ rdOf ByteArray.empty V (i : Int))) K (K.length : Int) ((i + 1 : Nat) : Int) K V C g) (fun k => ?_) hr, hz⟩
      simp only [spec_l6Bytes.l0, Option.bind_some]
      rw [if_pos (by omega), if_pos (by omega), if_pos (by omega), if_pos (by rw [e1]; omega), if_pos (by omega), if_pos (by simp only [app_size, e1]; omega), if_pos (by simp only [app_size, e1]; omega), if_pos (by simp only [app_size, e1]; omega), w64 (x := (i : Int) + 1) (by omega) (by omega)]
      rfl
  obtain ⟨r, hr, hz⟩ := pairs K.length 0 (strOfNums [(K.length : Int) % 256]) (by omega) (by rw [e1]; omega)
  exact ⟨r, hr, hz⟩
theorem k103 : Kd_ 103 := ⟨by decide, by decide⟩
theorem pageDigest_two (K V C : List ByteArray) (g : Int) (hK : K.length ≤ 2000000) (hV : V.length ≤ 2000000) (hC : C.length ≤ 2000000) : ∃ r, Ev (fun k => spec_PageDigest.f k K V C g) r ∧ Ev (fun k => impl_PageDigest.f k K V C g) r := by
  have hS := goodShownS K V C g hK hV hC
  have hI := goodShownI K V C g hK hV hC
  by_cases h : pageOk K V C g
  · rw [ch_yes h] at hS hI
    obtain ⟨r, hr, hz⟩ := bytesS K V C g h
    refine ⟨(dig 103 r, true), ev_bind hS (ev_pos rfl (ev_bind (ev_bind hr (ev_bind (digS 103 k103 r (by omega)) (Ev.now _))) (Ev.now _))), ev_bind hI (ev_pos rfl (ev_bind (ev_bind ?_ (ev_bind (digI 103 k103 r (by omega)) (Ev.now _))) (Ev.now _)))⟩
    exact Ev.congr (fun k => bytes_eq k K V C g) hr
  · rw [ch_no h] at hS hI
    exact ⟨(⟨#[]⟩, false), ev_bind hS (ev_neg (by simp) (Ev.now _)), ev_bind hI (ev_neg (by simp) (Ev.now _))⟩
theorem szShown (K V C : List ByteArray) (g : Int) (h1 : Fit K) (h2 : Fit V) (h3 : Fit C) (R : Int) (h0 : 0 ≤ R) (hR : R ≤ 1000000000) : Ev (fun k => laws_szShown.f k K V C g R) (left R (total K + (total V + total C))) := by
  refine ev_bind (szS K h1 R h0 hR) ?_
  by_cases c1 : (total K : Int) ≤ R
  · rw [if_pos c1]
    refine ev_neg (by omega) (ev_bind (szS V h2 (R - total K) (by omega) (by omega)) ?_)
    by_cases c2 : (total V : Int) ≤ R - total K
    · rw [if_pos c2]
      refine ev_neg (by omega) (ev_bind (szS C h3 (R - total K - total V) (by omega) (by omega)) ?_)
      by_cases c3 : (total C : Int) ≤ R - total K - total V
      · rw [if_pos c3]
        refine ev_neg (by omega) (ev_eq (Ev.now _) ?_)
        rw [left_yes (by omega)]; omega
      · rw [if_neg c3]
        refine ev_pos (by omega) (ev_eq (Ev.now _) ?_)
        rw [left_no (by omega)]
    · rw [if_neg c2]
      refine ev_pos (by omega) (ev_eq (Ev.now _) ?_)
      rw [left_no (by omega)]
  · rw [if_neg c1]
    refine ev_pos (by omega) (ev_eq (Ev.now _) ?_)
    rw [left_no (by omega)]
theorem toShown (K V C : List ByteArray) (g : Int) (hK : K.length ≤ 2000000) (hV : V.length ≤ 2000000) (hC : C.length ≤ 2000000) : Ev (fun k => laws_toShown.f k K V C g) (K, V, C, g) :=
  ev_bind (toS K hK) (ev_bind (toS V hV) (ev_bind (toS C hC) (Ev.now _)))
theorem eqShown (K V C : List ByteArray) (g : Int) (hK : K.length ≤ 2000000) (hV : V.length ≤ 2000000) (hC : C.length ≤ 2000000) : Ev (fun k => laws_eqShown.f k K V C g K V C g) true :=
  ev_bind (eqS_yes K hK) (ev_pos rfl (ev_bind (eqS_yes V hV) (ev_pos rfl (ev_bind (eqS_yes C hC) (ev_pos rfl (ev_pos rfl (Ev.now _)))))))
end Go.Proofs.Ytleegjkloclolaa.PW
end
section
namespace Go.Proofs.Ytleegjkloclolaa.Pure
open Go.RowKit Go.Proofs.YtleegjkloclolaaW.PrintWords Go.Proofs.YtleegjkloclolaaW.PrintLast Go.Proofs.YtleegjkloclolaaW.PrintMore Go.Proofs.Ytleegjkloclolaa.PB Go.Proofs.Ytleegjkloclolaa.PL Go.Proofs.Ytleegjkloclolaa.PT Go.Proofs.Ytleegjkloclolaa.PG Go.Proofs.Ytleegjkloclolaa.PW Go.Proofs.Ytleegjkloclolaa.PA
set_option linter.unusedVariables false
theorem FnExactPageDigest (K V C : List ByteArray) (g : Int) (hs : (K.length ≤ maxLen ∧ ∀ s ∈ K, s.size ≤ maxLen) ∧ (V.length ≤ maxLen ∧ ∀ s ∈ V, s.size ≤ maxLen) ∧ (C.length ≤ maxLen ∧ ∀ s ∈ C, s.size ≤ maxLen) ∧ (Lit.int .i64 g).wf = true) : ∃ k, laws_FnExactPageDigest.f k K V C g = some true := by
  refine Ev.rounds ?_
  unfold laws_FnExactPageDigest.f
  have hz := szShown K V C g hs.1 hs.2.1 hs.2.2.1 1048576 (by omega) (by omega)
  by_cases ht : ((total K + (total V + total C) : Nat) : Int) ≤ 1048576
  · rw [left_yes ht] at hz
    have hK : K.length ≤ 2000000 := by unfold total at ht; omega
    have hV : V.length ≤ 2000000 := by unfold total at ht; omega
    have hC : C.length ≤ 2000000 := by unfold total at ht; omega
    obtain ⟨⟨r, ok⟩, hsS, hiI⟩ := pageDigest_two K V C g hK hV hC
    refine ev_bind hz (ev_neg (by omega) (ev_bind (toShown K V C g hK hV hC) (ev_bind hsS (ev_bind (toShown K V C g hK hV hC) (ev_bind hiI ?_)))))
    refine ev_pos rfl ?_
    refine Ev.step (f := fun k => _) (fun k => by simp only [laws_FnExactPageDigest.j0]; rfl) ?_
    exact ev_neg (by simp) (ev_bind (toShown K V C g hK hV hC) (ev_bind (eqShown K V C g hK hV hC) (ev_pos rfl (Ev.now _))))
  · rw [left_no ht] at hz
    exact ev_bind hz (ev_pos (by omega) (Ev.now _))
end Go.Proofs.Ytleegjkloclolaa.Pure
end
section
namespace Go.Proofs.Ytleegjkloclolaa.RO
open Go.RowKit Go.Proofs.YtleegjkloclolaaW.PrintWords Go.ChangeShapes Go.WideShapes
def Opn (P : Program) (W : World) (e : TypeId) {α : Type} (d : Kd α) (G : α → Prop) : Prop :=
  ∀ {H : Type} {enc : TypeId × Value → H} {base : Nat} {spare : Nat → Bool} {held : Bool} {n : Nat} {cs : List Value} {x : DataW H × List MemPlace},
    DataW.trod enc P W base spare held n e cs = some x → ∃ y : α, d.K W y cs ∧ G y
section
variable {P : Program} {W : World} {e t : TypeId}
theorem op_string (he : P.underlying e = some .string) : Opn P W e Kd.string (fun s => s.size ≤ maxLen) := by
  intro H enc base spare held n cs x h
  obtain ⟨s, rfl, _, hs⟩ := DataW.trod_string he h
  exact ⟨s, rfl, hs⟩
theorem op_int {k : IntKind} (he : P.underlying e = some (.int k)) : Opn P W e (Kd.int k) (fun n => (Lit.int k n).wf = true) := by
  intro H enc base spare held n cs x h
  obtain ⟨m, rfl, _, hs⟩ := DataW.trod_int he h
  exact ⟨m, rfl, hs⟩
theorem pick {α : Type} {p : Nat → α → Prop} : ∀ (n : Nat), (∀ i, i < n → ∃ y, p i y) → ∃ ys : List α, ys.length = n ∧ ∀ i y, ys[i]? = some y → p i y := by
  intro n
  induction n with
  | zero => intro _; exact ⟨[], rfl, fun i y h => by simp at h⟩
  | succ n ih =>
    intro h
    obtain ⟨ys, hl, hp⟩ := ih (fun i hi => h i (by omega))
    obtain ⟨y, hy⟩ := h n (by omega)
    refine ⟨ys ++ [y], by simp [hl], fun i z hz => ?_⟩
    by_cases hi : i < n
    · rw [List.getElem?_append_left (by omega)] at hz
      exact hp i z hz
    · rw [List.getElem?_append_right (by omega)] at hz
      have : i = n := by
        rcases Nat.lt_or_ge (i - ys.length) 1 with h1 | h1
        · omega
        · rw [List.getElem?_eq_none (by simpa using h1)] at hz; cases hz
      subst this
      rw [hl, Nat.sub_self] at hz
      simp at hz
      subst hz
      exact hy
theorem op_slice {α : Type} {d : Kd α} {G : α → Prop} (ht : P.underlying t = some (.slice e)) (hc : P.cellsOf e = d.sz) (ho : Opn P W e d G) : Opn P W t (Kd.slice e d) (fun l => l.length ≤ maxLen ∧ ∀ x ∈ l, G x) := by
  intro H enc base spare held n cs x h
  rcases Deep.open_slice ht h with ⟨rfl, _⟩ | ⟨a, len, cap, m, n', D, Pl, rfl, _, hl, hm, hmm, _, hx⟩
  · exact ⟨[], ⟨none, 0, rfl, Nat.le_refl _, Kd.C_nil _ _⟩, by simp [maxLen], fun x hx => by cases hx⟩
  · obtain ⟨ys, hyl, hy⟩ := pick (p := fun i y => ∃ c, c.length = d.sz ∧ d.K W y c ∧ G y ∧ ∀ j u, c[j]? = some u → W.cell? (a.add (i * d.sz + j)) = some u) len (fun i hi => by
      have him : i < m := by rw [hmm]; split <;> omega
      obtain ⟨c, h1, h2⟩ := hx i him
      obtain ⟨y, hk, hg⟩ := ho h2
      obtain ⟨_, hcl, hcell⟩ := World.cells?_some h1
      rw [hc] at hcl hcell
      refine ⟨y, c, hcl, hk, hg, fun j u hj => ?_⟩
      have hj' : j < d.sz := by rw [← hcl]; exact (List.getElem?_eq_some_iff.1 hj).1
      have := hcell j hj'
      rw [hj] at this
      rw [← this]
      congr 1
      have e0 : ∀ p q : Nat, (a.add p).add q = a.add (p + q) := by
        intro p q
        obtain ⟨b, o, s⟩ := a
        unfold Addr.add
        by_cases hp : p = 0
        · subst hp; simp
        · by_cases hq : q = 0
          · subst hq; simp [hp]
          · simp [hp, hq]; omega
      rw [e0])
    refine ⟨ys, ⟨some a, cap, by rw [hyl], by omega, rfl, by rw [hyl]; unfold maxLen at hm; omega, fun h0 => ⟨a, rfl, fun j p hj => ?_⟩⟩, by rw [hyl]; omega, fun x hx => ?_⟩
    · obtain ⟨c, h1, h2, _, h3⟩ := hy j p hj
      exact ⟨c, h1, h2, h3⟩
    · obtain ⟨i, hi⟩ := List.getElem?_of_mem hx
      obtain ⟨c, _, _, h, _⟩ := hy i x hi
      exact h
def OpAt (P : Program) (W : World) (fs : List (TypeId × Nat)) (off : Nat) {α : Type} (d : Kd α) (G : α → Prop) : Prop :=
  ∀ {H : Type} {enc : TypeId × Value → H} {base : Nat} {spare : Nat → Bool} {held : Bool} {n : Nat} {cs : List Value}, cs.length = off + d.sz →
    (∀ f ∈ fs, ∃ x, DataW.trod enc P W base spare held n f.1 ((cs.drop f.2).take (P.cellsOf f.1)) = some x) → ∃ y : α, d.K W y (cs.drop off) ∧ G y
theorem opAt_one {off : Nat} {α : Type} {d : Kd α} {G : α → Prop} (hc : P.cellsOf e = d.sz) (h : Opn P W e d G) : OpAt P W [(e, off)] off d G := by
  intro H enc base spare held n cs hl hf
  obtain ⟨x, hx⟩ := hf (e, off) (List.mem_singleton.2 rfl)
  dsimp only at hx
  rw [hc, List.take_of_length_le (by rw [List.length_drop]; omega)] at hx
  exact h hx
theorem opAt_cons {off : Nat} {fs : List (TypeId × Nat)} {α β : Type} {d1 : Kd α} {d2 : Kd β} {G1 : α → Prop} {G2 : β → Prop} (hc : P.cellsOf e = d1.sz) (h1 : Opn P W e d1 G1) (h2 : OpAt P W fs (off + d1.sz) d2 G2) :
    OpAt P W ((e, off) :: fs) off (Kd.pair d1 d2) (fun y => G1 y.1 ∧ G2 y.2) := by
  intro H enc base spare held n cs hl hf
  have hl' : cs.length = off + (d1.sz + d2.sz) := hl
  obtain ⟨x, hx⟩ := hf (e, off) List.mem_cons_self
  dsimp only at hx
  rw [hc] at hx
  obtain ⟨y1, hk1, hg1⟩ := h1 hx
  obtain ⟨y2, hk2, hg2⟩ := h2 (cs := cs) (by omega) (fun f hf' => hf f (List.mem_cons_of_mem _ hf'))
  refine ⟨(y1, y2), ⟨(cs.drop off).take d1.sz, cs.drop (off + d1.sz), ?_, hk1, hk2⟩, hg1, hg2⟩
  rw [← List.drop_drop, List.take_append_drop]
theorem op_struct {fs : Array Field} {L : List (TypeId × Nat)} {α β : Type} {d : Kd α} {f : β → α} {g : α → β} {G : α → Prop} (ht : P.underlying t = some (.struct fs)) (hL : fs.toList.map (fun f => (f.type, f.offset)) = L) (hc : P.cellsOf t = d.sz) (hfg : ∀ y, f (g y) = y)
    (h : OpAt P W L 0 d G) : Opn P W t (Kd.iso d f) (fun x => G (f x)) := by
  intro H enc base spare held n cs x hx
  obtain ⟨xs, m, _, _, hl, hxl, hf⟩ := DataW.trod_struct ht hx
  obtain ⟨y, hk, hg⟩ := h (cs := cs) (n := m) (enc := enc) (base := base) (spare := spare) (held := held) (by rw [hl, hc]; omega) (fun q hq => by
    rw [← hL] at hq
    obtain ⟨fd, hfd, rfl⟩ := List.mem_map.1 hq
    obtain ⟨i, hi⟩ := List.getElem?_of_mem hfd
    rw [Array.getElem?_toList] at hi
    have hlt : i < xs.length := by
      have := (Array.getElem?_eq_some_iff.1 hi).1
      omega
    exact ⟨xs[i], by rw [hf i fd hi]; exact List.getElem?_eq_getElem hlt⟩)
  rw [List.drop_zero] at hk
  refine ⟨g y, ?_, ?_⟩
  · show d.K W (f (g y)) cs
    rw [hfg]; exact hk
  · show G (f (g y))
    rw [hfg]; exact hg
theorem op_struct0 {fs : Array Field} {L : List (TypeId × Nat)} {α : Type} {d : Kd α} {G : α → Prop} (ht : P.underlying t = some (.struct fs)) (hL : fs.toList.map (fun f => (f.type, f.offset)) = L) (hc : P.cellsOf t = d.sz)
    (h : OpAt P W L 0 d G) : Opn P W t d G := by
  intro H enc base spare held n cs x hx
  exact op_struct (d := d) (f := fun y : α => y) (g := fun y => y) ht hL hc (fun _ => rfl) h hx
end
theorem agg_of_cells {v : Value} {l : List Value} (h : v.cells.toList = l) (hl : 2 ≤ l.length) : v = .agg l.toArray := by
  cases v <;> simp only [Value.cells] at h
  case agg cs => subst h; simp
  all_goals (subst h; simp at hl)
end Go.Proofs.Ytleegjkloclolaa.RO
end
