/- For the law FnExactCheckKey: what it needs of the words, of the printed functions and of the plain laws, in few texts (laid by merge.py of this workplace). -/
import Derived.Test.YtfajabboibcgpaaMFnExactCheckKeyd
import Derived.Laws.BitsLemmas
import Derived.Deep.Slices
import Derived.ChangeArms
import Derived.DataReads
section
namespace Go.Proofs.Ytfajabboibcgpaa.PS
open Go.RowKit Go.Proofs.YtfajabboibcgpaaW.PrintWords Go.Proofs.YtfajabboibcgpaaW.PrintLast Go.Proofs.YtfajabboibcgpaaW.PrintMore
attribute [local go_sem] max2_int min2_int max_two min_two max_three min_three max_four min_four   -- for this text's walks alone
set_option linter.unusedVariables false
set_option linter.unusedSimpArgs false
def laws_FnExactCheckKey.j0 : Nat → List (S167) → List (S168) → Bool → Option (Bool)
 | 0, _, _, _ => none
 | k + 1, x2, x11, x57 => if x57 = true then (some false) else ((laws_toShownS.f k x2).bind fun t303 => ((laws_eqShownS.f k x11 t303).bind fun t306 => (if t306 = true then (some true) else (some false))))
def laws_FnExactCheckKey.f (k : Nat) (a0 : ByteArray) (a1 : ByteArray) (l2 : List (S167)) : Option (Bool) := if (a0.size : Int) > 1048576 then (some true) else (if (a1.size : Int) > 1048576 then (some true) else ((laws_szShownS.f k l2 1048576).bind fun t290 => (if t290 < 0 then (some true) else ((laws_toShownS.f k l2).bind fun t291 => ((spec_CheckKey.f k a0 a1 t291).bind fun bt294 => ((laws_toShownS.f k l2).bind fun t297 => ((impl_CheckKey.f k a0 a1 t297).bind fun bt300 => (if bt300.1.toList = bt294.1.toList then (if (bt300.2.1 != bt294.2.1) = true then (laws_FnExactCheckKey.j0 k l2 t297 true) else (laws_FnExactCheckKey.j0 k l2 t297 (bt300.2.2 != bt294.2.2))) else (laws_FnExactCheckKey.j0 k l2 t297 true)))))))))
set_option maxHeartbeats 60000000 in
set_option maxRecDepth 100000 in
theorem laws_FnExactCheckKey.calls (k : Nat) (a0 : ByteArray) (a1 : ByteArray) (A2 : Option Addr) (c2 : Nat) (l2 : List (S167)) (r : Bool) (w : World) (hr2 : Kd.C k167 w A2 l2.length l2) (hc2 : l2.length ≤ c2) (h : laws_FnExactCheckKey.f k a0 a1 l2 = some r) :
  Calls Try.prog 13 #[.string a0, .string a1, .slice A2 l2.length c2] w fun e w' => e = .returned (.bool r) ∧ Below w.heap.size w w' := by
 have HR2 := Aside0.mk hr2
 have HC2 := Aside0.mk hc2
 clear hr2 hc2
 have HB := Aside0.mk (Below.refl w.heap.size w)
 have H : (if (a0.size : Int) > 1048576 then (some true) else (if (a1.size : Int) > 1048576 then (some true) else ((laws_szShownS.f k l2 1048576).bind fun t290 => (if t290 < 0 then (some true) else ((laws_toShownS.f k l2).bind fun t291 => ((spec_CheckKey.f k a0 a1 t291).bind fun bt294 => ((laws_toShownS.f k l2).bind fun t297 => ((impl_CheckKey.f k a0 a1 t297).bind fun bt300 => (if bt300.1.toList = bt294.1.toList then (if (bt300.2.1 != bt294.2.1) = true then (laws_FnExactCheckKey.j0 k l2 t297 true) else (laws_FnExactCheckKey.j0 k l2 t297 (bt300.2.2 != bt294.2.2))) else (laws_FnExactCheckKey.j0 k l2 t297 true)))))))))) = some r := h
 clear h
 by_cases c4 : (a0.size : Int) > 1048576
 ·rw [if_pos c4] at H
  have c4b0 : decide (1048576 < (a0.size : Int)) = true := decide_eq_true c4
  have c4b1 : decide (1048576 < a0.size) = true := decide_eq_true (by omega)
  clear c4
  obtain rfl := Option.some.inj H
  go_enter Try.func13, Try.ntmps13
  go_wp2
  go_ret
  exact ⟨by first | rfl | (simp [errW_none, errW_some] <;> rfl) | (simp [*, errW_none, errW_some] <;> rfl), by repeat (first | (with_reducible first | exact HB.out | apply below_alloc | apply pw_below_drewN | apply below_drew1) | exact HB.out)⟩
 ·rw [if_neg c4] at H
  have c4b0 : decide (1048576 < (a0.size : Int)) = false := decide_eq_false c4
  have c4b1 : decide (1048576 < a0.size) = false := decide_eq_false (by omega)
  clear c4
  by_cases c5 : (a1.size : Int) > 1048576
  ·rw [if_pos c5] at H
   have c5b0 : decide (1048576 < (a1.size : Int)) = true := decide_eq_true c5
   have c5b1 : decide (1048576 < a1.size) = true := decide_eq_true (by omega)
   clear c5
   obtain rfl := Option.some.inj H
   go_enter Try.func13, Try.ntmps13
   go_wp2
   go_ret
   exact ⟨by first | rfl | (simp [errW_none, errW_some] <;> rfl) | (simp [*, errW_none, errW_some] <;> rfl), by repeat (first | (with_reducible first | exact HB.out | apply below_alloc | apply pw_below_drewN | apply below_drew1) | exact HB.out)⟩
  ·rw [if_neg c5] at H
   have c5b0 : decide (1048576 < (a1.size : Int)) = false := decide_eq_false c5
   have c5b1 : decide (1048576 < a1.size) = false := decide_eq_false (by omega)
   clear c5
   replace H := Option.bind_eq_some_iff.mp H
   obtain ⟨t290, A60, H⟩ := H
   replace H : (if t290 < 0 then (some true) else ((laws_toShownS.f k l2).bind fun t291 => ((spec_CheckKey.f k a0 a1 t291).bind fun bt294 => ((laws_toShownS.f k l2).bind fun t297 => ((impl_CheckKey.f k a0 a1 t297).bind fun bt300 => (if bt300.1.toList = bt294.1.toList then (if (bt300.2.1 != bt294.2.1) = true then (laws_FnExactCheckKey.j0 k l2 t297 true) else (laws_FnExactCheckKey.j0 k l2 t297 (bt300.2.2 != bt294.2.2))) else (laws_FnExactCheckKey.j0 k l2 t297 true))))))) = some r := H
   have A6 := Aside0.mk A60
   clear A60
   by_cases c7 : t290 < 0
   ·rw [if_pos c7] at H
    have c7b0 : decide (t290 < 0) = true := decide_eq_true c7
    clear c7
    obtain rfl := Option.some.inj H
    go_enter Try.func13, Try.ntmps13
    go_wp2_with (first | ((with_reducible refine gate_callee (f := 70) rfl ?_); refine goesL_ (some 23) rfl rfl Try.func70 (by kernel_rfl) rfl #[.slice A2 l2.length c2, .int .i64 1048576] rfl (by (try simp only [List.map_toArray, List.map_cons, List.map_nil]); first | done | rfl | (simp only [List.length_drop, List.length_take]; rfl)) ?_; (with_reducible refine (laws_szShownS.calls k _ _ l2 1048576 t290 _ ?side1 ?side2 A6.out).mono ?_); (case side1 => repeat (first | exact HR2.out | (with_reducible refine Kd.C_alloc ?_ _) | (with_reducible refine Kd.C_drewN ?_ _) | (with_reducible refine Kd.C_drew ?_))); (case side2 => exact HC2.out); rintro e w8 ⟨rfl, hb⟩; refine ⟨_, rfl, ?_⟩; have n0_ := Aside0.mk (below_step (by repeat (first | (with_reducible first | exact HB.out | apply below_alloc | apply pw_below_drewN | apply below_drew1) | exact HB.out)) hb); clear HB; have HB := n0_; clear n0_; (try clear hb); (try clear hb2); (try clear hk); (try clear hi)))
    go_ret
    exact ⟨by first | rfl | (simp [errW_none, errW_some] <;> rfl) | (simp [*, errW_none, errW_some] <;> rfl), by repeat (first | (with_reducible first | exact HB.out | apply below_alloc | apply pw_below_drewN | apply below_drew1) | exact HB.out)⟩
   ·rw [if_neg c7] at H
    have c7b0 : decide (t290 < 0) = false := decide_eq_false c7
    clear c7
    replace H := Option.bind_eq_some_iff.mp H
    obtain ⟨t291, A90, H⟩ := H
    replace H : ((spec_CheckKey.f k a0 a1 t291).bind fun bt294 => ((laws_toShownS.f k l2).bind fun t297 => ((impl_CheckKey.f k a0 a1 t297).bind fun bt300 => (if bt300.1.toList = bt294.1.toList then (if (bt300.2.1 != bt294.2.1) = true then (laws_FnExactCheckKey.j0 k l2 t297 true) else (laws_FnExactCheckKey.j0 k l2 t297 (bt300.2.2 != bt294.2.2))) else (laws_FnExactCheckKey.j0 k l2 t297 true))))) = some r := H
    have A9 := Aside0.mk A90
    clear A90
    replace H := Option.bind_eq_some_iff.mp H
    obtain ⟨⟨t294, t295, t296⟩, A100, H⟩ := H
    replace H : ((laws_toShownS.f k l2).bind fun t297 => ((impl_CheckKey.f k a0 a1 t297).bind fun bt300 => (if bt300.1.toList = t294.toList then (if (bt300.2.1 != t295) = true then (laws_FnExactCheckKey.j0 k l2 t297 true) else (laws_FnExactCheckKey.j0 k l2 t297 (bt300.2.2 != t296))) else (laws_FnExactCheckKey.j0 k l2 t297 true)))) = some r := H
    have A10 := Aside0.mk A100
    clear A100
    replace H := Option.bind_eq_some_iff.mp H
    obtain ⟨t297, A110, H⟩ := H
    replace H : ((impl_CheckKey.f k a0 a1 t297).bind fun bt300 => (if bt300.1.toList = t294.toList then (if (bt300.2.1 != t295) = true then (laws_FnExactCheckKey.j0 k l2 t297 true) else (laws_FnExactCheckKey.j0 k l2 t297 (bt300.2.2 != t296))) else (laws_FnExactCheckKey.j0 k l2 t297 true))) = some r := H
    have A11 := Aside0.mk A110
    clear A110
    replace H := Option.bind_eq_some_iff.mp H
    obtain ⟨⟨t300, t301, t302⟩, A120, H⟩ := H
    replace H : (if t300.toList = t294.toList then (if (t301 != t295) = true then (laws_FnExactCheckKey.j0 k l2 t297 true) else (laws_FnExactCheckKey.j0 k l2 t297 (t302 != t296))) else (laws_FnExactCheckKey.j0 k l2 t297 true)) = some r := H
    have A12 := Aside0.mk A120
    clear A120
    have HC13 := Aside0.mk H
    clear H
    go_enter Try.func13, Try.ntmps13
    go_upto_region 12 with (first | ((with_reducible refine gate_callee (f := 70) rfl ?_); refine goesL_ (some 23) rfl rfl Try.func70 (by kernel_rfl) rfl #[.slice A2 l2.length c2, .int .i64 1048576] rfl (by (try simp only [List.map_toArray, List.map_cons, List.map_nil]); first | done | rfl | (simp only [List.length_drop, List.length_take]; rfl)) ?_; (with_reducible refine (laws_szShownS.calls k _ _ l2 1048576 t290 _ ?side1 ?side2 A6.out).mono ?_); (case side1 => repeat (first | exact HR2.out | (with_reducible refine Kd.C_alloc ?_ _) | (with_reducible refine Kd.C_drewN ?_ _) | (with_reducible refine Kd.C_drew ?_))); (case side2 => exact HC2.out); rintro e w14 ⟨rfl, hb⟩; refine ⟨_, rfl, ?_⟩; have n0_ := Aside0.mk (below_step (by repeat (first | (with_reducible first | exact HB.out | apply below_alloc | apply pw_below_drewN | apply below_drew1) | exact HB.out)) hb); clear HB; have HB := n0_; clear n0_; (try clear hb); (try clear hb2); (try clear hk); (try clear hi)) | ((with_reducible refine gate_callee (f := 72) rfl ?_); refine goesL_ (some 30) rfl rfl Try.func72 (by kernel_rfl) rfl #[.slice A2 l2.length c2] rfl (by (try simp only [List.map_toArray, List.map_cons, List.map_nil]); first | done | rfl | (simp only [List.length_drop, List.length_take]; rfl)) ?_; (with_reducible refine (laws_toShownS.calls k _ _ l2 t291 _ ?side1 ?side2 A9.out).mono ?_); (case side1 => repeat (first | exact (Kd.C_below HR2.out HB.out) | (with_reducible refine Kd.C_alloc ?_ _) | (with_reducible refine Kd.C_drewN ?_ _) | (with_reducible refine Kd.C_drew ?_))); (case side2 => exact HC2.out); rintro e w15 ⟨v292, rfl, ho0, hb⟩; refine ⟨_, rfl, ?_⟩; have n0_ := Aside0.mk (Kd.S_lower ho0 (below_size (by repeat (first | (with_reducible first | exact HB.out | apply below_alloc | apply pw_below_drewN | apply below_drew1) | exact HB.out)))); have n1_ := Aside0.mk (below_step (by repeat (first | (with_reducible first | exact HB.out | apply below_alloc | apply pw_below_drewN | apply below_drew1) | exact HB.out)) hb); clear HB; have HO293 := n0_; have HB := n1_; clear n0_ n1_; (try clear hb); (try clear hb2); (try clear hk); (try clear hi); (try clear ho0); obtain ⟨Ao16, co16, eo16⟩ := Kd.S_slice HO293.out; subst eo16) | ((with_reducible refine gate_callee (f := 71) rfl ?_); refine goesL_ (some 31) rfl rfl Try.func71 (by kernel_rfl) rfl #[.string a0, .string a1, .slice Ao16 t291.length co16] rfl (by (try simp only [List.map_toArray, List.map_cons, List.map_nil]); first | done | rfl | (simp only [List.length_drop, List.length_take]; rfl)) ?_; (with_reducible refine (spec_CheckKey.calls k a0 a1 _ _ t291 t294 t295 t296 _ ?side1 ?side2 A10.out).mono ?_); (case side1 => repeat (first | exact (Kd.S_reads' HO293.out).2.2 | (with_reducible refine Kd.C_alloc ?_ _) | (with_reducible refine Kd.C_drewN ?_ _) | (with_reducible refine Kd.C_drew ?_))); (case side2 => exact (Kd.S_reads' HO293.out).2.1); rintro e w17 ⟨rfl, hb⟩; refine ⟨_, rfl, ?_⟩; have n0_ := Aside0.mk (Kd.S_below (by (with_reducible repeat (first | apply Kd.S_alloc | apply Kd.S_drewN | apply Kd.S_drew)); exact HO293.out) hb); have n1_ := Aside0.mk (below_step (by repeat (first | (with_reducible first | exact HB.out | apply below_alloc | apply pw_below_drewN | apply below_drew1) | exact HB.out)) hb); clear HO293; clear HB; have HO293 := n0_; have HB := n1_; clear n0_ n1_; (try clear hb); (try clear hb2); (try clear hk); (try clear hi)) | ((with_reducible refine gate_callee (f := 72) rfl ?_); refine goesL_ (some 36) rfl rfl Try.func72 (by kernel_rfl) rfl #[.slice A2 l2.length c2] rfl (by (try simp only [List.map_toArray, List.map_cons, List.map_nil]); first | done | rfl | (simp only [List.length_drop, List.length_take]; rfl)) ?_; (with_reducible refine (laws_toShownS.calls k _ _ l2 t297 _ ?side1 ?side2 A11.out).mono ?_); (case side1 => repeat (first | exact (Kd.C_below HR2.out HB.out) | (with_reducible refine Kd.C_alloc ?_ _) | (with_reducible refine Kd.C_drewN ?_ _) | (with_reducible refine Kd.C_drew ?_))); (case side2 => exact HC2.out); rintro e w18 ⟨v298, rfl, ho0, hb⟩; refine ⟨_, rfl, ?_⟩; have n0_ := Aside0.mk (Kd.S_elder' (by (with_reducible repeat (first | apply Kd.S_alloc | apply Kd.S_drewN | apply Kd.S_drew)); exact HO293.out) (Kd.S_base ho0) hb); have n1_ := Aside0.mk (Kd.S_lower (Kd.S_new' ho0 (Kd.S_lt (by (with_reducible repeat (first | apply Kd.S_alloc | apply Kd.S_drewN | apply Kd.S_drew)); exact HO293.out))) (below_size (by repeat (first | (with_reducible first | exact HB.out | apply below_alloc | apply pw_below_drewN | apply below_drew1) | exact HB.out)))); have n2_ := Aside0.mk (below_step (by repeat (first | (with_reducible first | exact HB.out | apply below_alloc | apply pw_below_drewN | apply below_drew1) | exact HB.out)) hb); clear HO293; clear HB; have HO293 := n0_; have HO299 := n1_; have HB := n2_; clear n0_ n1_ n2_; (try clear hb); (try clear hb2); (try clear hk); (try clear hi); (try clear ho0); obtain ⟨Ao19, co19, eo19⟩ := Kd.S_slice HO299.out; subst eo19) | ((with_reducible refine gate_callee (f := 73) rfl ?_); refine goesL_ (some 41) rfl rfl Try.func73 (by kernel_rfl) rfl #[.string a0, .string a1, .slice Ao19 t297.length co19] rfl (by (try simp only [List.map_toArray, List.map_cons, List.map_nil]); first | done | rfl | (simp only [List.length_drop, List.length_take]; rfl)) ?_; (with_reducible refine (impl_CheckKey.calls k a0 a1 _ _ t297 t300 t301 t302 _ ?side1 ?side2 A12.out).mono ?_); (case side1 => repeat (first | exact (Kd.S_reads' HO299.out).2.2 | (with_reducible refine Kd.C_alloc ?_ _) | (with_reducible refine Kd.C_drewN ?_ _) | (with_reducible refine Kd.C_drew ?_))); (case side2 => exact (Kd.S_reads' HO299.out).2.1); rintro e w20 ⟨rfl, hb⟩; refine ⟨_, rfl, ?_⟩; have n0_ := Aside0.mk (Kd.S_below (by (with_reducible repeat (first | apply Kd.S_alloc | apply Kd.S_drewN | apply Kd.S_drew)); exact HO293.out) hb); have n1_ := Aside0.mk (Kd.S_below (by (with_reducible repeat (first | apply Kd.S_alloc | apply Kd.S_drewN | apply Kd.S_drew)); exact HO299.out) hb); have n2_ := Aside0.mk (below_step (by repeat (first | (with_reducible first | exact HB.out | apply below_alloc | apply pw_below_drewN | apply below_drew1) | exact HB.out)) hb); clear HO293; clear HO299; clear HB; have HO293 := n0_; have HO299 := n1_; have HB := n2_; clear n0_ n1_ n2_; (try clear hb); (try clear hb2); (try clear hk); (try clear hi)))
    (try simp only [Act.put, List.setIfInBounds_toArray, List.set_cons_zero, List.set_cons_succ])
    go_cut [57] (fun v57 wc => ∃ (kq : Nat) (x57_12 : Bool), v57 = .bool x57_12 ∧ Aside0 (laws_FnExactCheckKey.j0 kq l2 t297 x57_12 = some r) ∧ Aside0 (kq ≤ k) ∧ Aside0 (Kd.S k168 168 wc w.heap.size (fun _ => True) (.slice Ao19 t297.length co19) t297) ∧ Aside0 (Below w.heap.size w wc))
    case first =>
     have H := HC13.out
     clear HC13
     by_cases c21 : t300.toList = t294.toList
     ·rw [if_pos c21] at H
      have c21b0 : (t300.toList == t294.toList) = true := beq_iff_eq.mpr c21
      have c21b1 : (t300.toList != t294.toList) = false := bne_eq_false_iff_eq.mpr c21
      clear c21
      (first | rw [c21b0] | (simp only [i64_w, i32_w]; rw [c21b0]) | skip)
      by_cases c22 : (t301 != t295) = true
      ·rw [if_pos c22] at H
       have c22b0 : (t301 != t295) = true := c22
       (try (have c22b1 : decide (t301 = t295) = false := by simpa using c22))
       (try (have c22b2 : (t301 == t295) = false := by simpa using c22))
       (try (have c22b3 : ¬ (t301 = t295) := by simpa using c22))
       clear c22
       have H' := Aside0.mk H
       clear H
       go_wp2
       go_meet
       case rel => exact ⟨_, (true), (by first | rfl | (simp; done) | (simp [*]; done) | (simp [bne]; done)), H', ⟨by first | omega | exact Nat.le_refl _⟩, ⟨by (with_reducible repeat (first | apply Kd.S_alloc | apply Kd.S_drewN | apply Kd.S_drew)); exact Kd.S_mono HO299.out (fun _ hk => trivial)⟩, ⟨by repeat (first | (with_reducible first | exact HB.out | apply below_alloc | apply pw_below_drewN | apply below_drew1) | exact HB.out)⟩⟩
      ·rw [if_neg c22] at H
       have c22b0 : (t301 != t295) = false := by simpa using c22
       (try (have c22b1 : decide (t301 = t295) = true := by simpa using c22))
       (try (have c22b2 : (t301 == t295) = true := by simpa using c22))
       clear c22
       have H' := Aside0.mk H
       clear H
       go_wp2
       go_meet
       case rel => exact ⟨_, ((t302 != t296)), (by first | rfl | (simp; done) | (simp [*]; done) | (simp [bne]; done)), H', ⟨by first | omega | exact Nat.le_refl _⟩, ⟨by (with_reducible repeat (first | apply Kd.S_alloc | apply Kd.S_drewN | apply Kd.S_drew)); exact Kd.S_mono HO299.out (fun _ hk => trivial)⟩, ⟨by repeat (first | (with_reducible first | exact HB.out | apply below_alloc | apply pw_below_drewN | apply below_drew1) | exact HB.out)⟩⟩
     ·rw [if_neg c21] at H
      have c21b0 : (t300.toList == t294.toList) = false := beq_eq_false_iff_ne.mpr c21
      have c21b1 : (t300.toList != t294.toList) = true := bne_iff_ne.mpr c21
      (first | rw [c21b0] | (simp only [i64_w, i32_w]; rw [c21b0]) | skip)
      have H' := Aside0.mk H
      clear H
      go_wp2
      go_meet
      case rel => exact ⟨_, (true), (by first | rfl | (simp; done) | (simp [*]; done) | (simp [bne]; done)), H', ⟨by first | omega | exact Nat.le_refl _⟩, ⟨by (with_reducible repeat (first | apply Kd.S_alloc | apply Kd.S_drewN | apply Kd.S_drew)); exact Kd.S_mono HO299.out (fun _ hk => trivial)⟩, ⟨by repeat (first | (with_reducible first | exact HB.out | apply below_alloc | apply pw_below_drewN | apply below_drew1) | exact HB.out)⟩⟩
    case rest =>
     clear HC13
     try clear c1
     try clear c2
     try clear p2
     try clear c4
     try clear c4b0
     try clear c4b1
     try clear c5
     try clear c5b0
     try clear c5b1
     try clear c7
     try clear c7b0
     try clear c13
     try clear c21
     try clear c21b0
     try clear c21b1
     try clear c22
     try clear c22b0
     try clear c22b1
     try clear c22b2
     obtain ⟨kq, x57_12, rfl, HA, HJ12, HO_11, HB⟩ := hcut
     cases kq with
     | zero => exact absurd HA.out (by simp [laws_FnExactCheckKey.j0])
     | succ kj12 =>
      have H := HA.out
      clear HA
      simp only [laws_FnExactCheckKey.j0] at H
      by_cases c23 : x57_12 = true
      ·subst c23
       have H1 : (some false) = some r := by rw [if_pos rfl] at H; exact H
       clear H
       have H := H1
       clear H1
       obtain rfl := Option.some.inj H
       go_wp2
       go_ret
       exact ⟨by first | rfl | (simp [errW_none, errW_some] <;> rfl) | (simp [*, errW_none, errW_some] <;> rfl), by repeat (first | (with_reducible first | exact HB.out | apply below_alloc | apply pw_below_drewN | apply below_drew1) | exact HB.out)⟩
      ·replace c23 := Bool.eq_false_iff.mpr c23
       subst c23
       have H1 : ((laws_toShownS.f kj12 l2).bind fun t303 => ((laws_eqShownS.f kj12 t297 t303).bind fun t306 => (if t306 = true then (some true) else (some false)))) = some r := by rw [if_neg (show ¬ (false = true) by decide)] at H; exact H
       clear H
       have H := H1
       clear H1
       replace H := Option.bind_eq_some_iff.mp H
       obtain ⟨t303, A240, H⟩ := H
       replace H : ((laws_eqShownS.f kj12 t297 t303).bind fun t306 => (if t306 = true then (some true) else (some false))) = some r := H
       have A24 := Aside0.mk A240
       clear A240
       replace H := Option.bind_eq_some_iff.mp H
       obtain ⟨t306, A250, H⟩ := H
       replace H : (if t306 = true then (some true) else (some false)) = some r := H
       have A25 := Aside0.mk A250
       clear A250
       by_cases c26 : t306 = true
       ·subst c26
        have H1 : (some true) = some r := by rw [if_pos rfl] at H; exact H
        clear H
        have H := H1
        clear H1
        obtain rfl := Option.some.inj H
        go_wp2_with (first | ((with_reducible refine gate_callee (f := 72) rfl ?_); refine goesL_ (some 60) rfl rfl Try.func72 (by kernel_rfl) rfl #[.slice A2 l2.length c2] rfl (by (try simp only [List.map_toArray, List.map_cons, List.map_nil]); first | done | rfl | (simp only [List.length_drop, List.length_take]; rfl)) ?_; (with_reducible refine (laws_toShownS.calls kj12 _ _ l2 t303 _ ?side1 ?side2 A24.out).mono ?_); (case side1 => repeat (first | exact (Kd.C_below HR2.out HB.out) | (with_reducible refine Kd.C_alloc ?_ _) | (with_reducible refine Kd.C_drewN ?_ _) | (with_reducible refine Kd.C_drew ?_))); (case side2 => exact HC2.out); rintro e w27 ⟨v304, rfl, ho0, hb⟩; refine ⟨_, rfl, ?_⟩; have n0_ := Aside0.mk (Kd.S_elder' (by (with_reducible repeat (first | apply Kd.S_alloc | apply Kd.S_drewN | apply Kd.S_drew)); exact HO_11.out) (Kd.S_base ho0) hb); have n1_ := Aside0.mk (Kd.S_lower (Kd.S_new' ho0 (Kd.S_lt (by (with_reducible repeat (first | apply Kd.S_alloc | apply Kd.S_drewN | apply Kd.S_drew)); exact HO_11.out))) (below_size (by repeat (first | (with_reducible first | exact HB.out | apply below_alloc | apply pw_below_drewN | apply below_drew1) | exact HB.out)))); have n2_ := Aside0.mk (below_step (by repeat (first | (with_reducible first | exact HB.out | apply below_alloc | apply pw_below_drewN | apply below_drew1) | exact HB.out)) hb); clear HO_11; clear HB; have HO_11 := n0_; have HO305 := n1_; have HB := n2_; clear n0_ n1_ n2_; (try clear hb); (try clear hb2); (try clear hk); (try clear hi); (try clear ho0); obtain ⟨Ao28, co28, eo28⟩ := Kd.S_slice HO305.out; subst eo28) | ((with_reducible refine gate_callee (f := 74) rfl ?_); refine goesL_ (some 61) rfl rfl Try.func74 (by kernel_rfl) rfl #[.slice Ao19 t297.length co19, .slice Ao28 t303.length co28] rfl (by (try simp only [List.map_toArray, List.map_cons, List.map_nil]); first | done | rfl | (simp only [List.length_drop, List.length_take]; rfl)) ?_; (with_reducible refine (laws_eqShownS.calls kj12 _ _ t297 _ _ t303 true _ ?side1 ?side2 ?side3 ?side4 A25.out).mono ?_); (case side1 => repeat (first | exact (Kd.S_reads' HO_11.out).2.2 | (with_reducible refine Kd.C_alloc ?_ _) | (with_reducible refine Kd.C_drewN ?_ _) | (with_reducible refine Kd.C_drew ?_))); (case side2 => exact (Kd.S_reads' HO_11.out).2.1); (case side3 => repeat (first | exact (Kd.S_reads' HO305.out).2.2 | (with_reducible refine Kd.C_alloc ?_ _) | (with_reducible refine Kd.C_drewN ?_ _) | (with_reducible refine Kd.C_drew ?_))); (case side4 => exact (Kd.S_reads' HO305.out).2.1); rintro e w29 ⟨rfl, hb⟩; refine ⟨_, rfl, ?_⟩; have n0_ := Aside0.mk (Kd.S_below (by (with_reducible repeat (first | apply Kd.S_alloc | apply Kd.S_drewN | apply Kd.S_drew)); exact HO_11.out) hb); have n1_ := Aside0.mk (Kd.S_below (by (with_reducible repeat (first | apply Kd.S_alloc | apply Kd.S_drewN | apply Kd.S_drew)); exact HO305.out) hb); have n2_ := Aside0.mk (below_step (by repeat (first | (with_reducible first | exact HB.out | apply below_alloc | apply pw_below_drewN | apply below_drew1) | exact HB.out)) hb); clear HO_11; clear HO305; clear HB; have HO_11 := n0_; have HO305 := n1_; have HB := n2_; clear n0_ n1_ n2_; (try clear hb); (try clear hb2); (try clear hk); (try clear hi)))
        go_ret
        exact ⟨by first | rfl | (simp [errW_none, errW_some] <;> rfl) | (simp [*, errW_none, errW_some] <;> rfl), by repeat (first | (with_reducible first | exact HB.out | apply below_alloc | apply pw_below_drewN | apply below_drew1) | exact HB.out)⟩
       ·replace c26 := Bool.eq_false_iff.mpr c26
        subst c26
        have H1 : (some false) = some r := by rw [if_neg (show ¬ (false = true) by decide)] at H; exact H
        clear H
        have H := H1
        clear H1
        obtain rfl := Option.some.inj H
        go_wp2_with (first | ((with_reducible refine gate_callee (f := 72) rfl ?_); refine goesL_ (some 60) rfl rfl Try.func72 (by kernel_rfl) rfl #[.slice A2 l2.length c2] rfl (by (try simp only [List.map_toArray, List.map_cons, List.map_nil]); first | done | rfl | (simp only [List.length_drop, List.length_take]; rfl)) ?_; (with_reducible refine (laws_toShownS.calls kj12 _ _ l2 t303 _ ?side1 ?side2 A24.out).mono ?_); (case side1 => repeat (first | exact (Kd.C_below HR2.out HB.out) | (with_reducible refine Kd.C_alloc ?_ _) | (with_reducible refine Kd.C_drewN ?_ _) | (with_reducible refine Kd.C_drew ?_))); (case side2 => exact HC2.out); rintro e w30 ⟨v304, rfl, ho0, hb⟩; refine ⟨_, rfl, ?_⟩; have n0_ := Aside0.mk (Kd.S_elder' (by (with_reducible repeat (first | apply Kd.S_alloc | apply Kd.S_drewN | apply Kd.S_drew)); exact HO_11.out) (Kd.S_base ho0) hb); have n1_ := Aside0.mk (Kd.S_lower (Kd.S_new' ho0 (Kd.S_lt (by (with_reducible repeat (first | apply Kd.S_alloc | apply Kd.S_drewN | apply Kd.S_drew)); exact HO_11.out))) (below_size (by repeat (first | (with_reducible first | exact HB.out | apply below_alloc | apply pw_below_drewN | apply below_drew1) | exact HB.out)))); have n2_ := Aside0.mk (below_step (by repeat (first | (with_reducible first | exact HB.out | apply below_alloc | apply pw_below_drewN | apply below_drew1) | exact HB.out)) hb); clear HO_11; clear HB; have HO_11 := n0_; have HO305 := n1_; have HB := n2_; clear n0_ n1_ n2_; (try clear hb); (try clear hb2); (try clear hk); (try clear hi); (try clear ho0); obtain ⟨Ao31, co31, eo31⟩ := Kd.S_slice HO305.out; subst eo31) | ((with_reducible refine gate_callee (f := 74) rfl ?_); refine goesL_ (some 61) rfl rfl Try.func74 (by kernel_rfl) rfl #[.slice Ao19 t297.length co19, .slice Ao31 t303.length co31] rfl (by (try simp only [List.map_toArray, List.map_cons, List.map_nil]); first | done | rfl | (simp only [List.length_drop, List.length_take]; rfl)) ?_; (with_reducible refine (laws_eqShownS.calls kj12 _ _ t297 _ _ t303 false _ ?side1 ?side2 ?side3 ?side4 A25.out).mono ?_); (case side1 => repeat (first | exact (Kd.S_reads' HO_11.out).2.2 | (with_reducible refine Kd.C_alloc ?_ _) | (with_reducible refine Kd.C_drewN ?_ _) | (with_reducible refine Kd.C_drew ?_))); (case side2 => exact (Kd.S_reads' HO_11.out).2.1); (case side3 => repeat (first | exact (Kd.S_reads' HO305.out).2.2 | (with_reducible refine Kd.C_alloc ?_ _) | (with_reducible refine Kd.C_drewN ?_ _) | (with_reducible refine Kd.C_drew ?_))); (case side4 => exact (Kd.S_reads' HO305.out).2.1); rintro e w32 ⟨rfl, hb⟩; refine ⟨_, rfl, ?_⟩; have n0_ := Aside0.mk (Kd.S_below (by (with_reducible repeat (first | apply Kd.S_alloc | apply Kd.S_drewN | apply Kd.S_drew)); exact HO_11.out) hb); have n1_ := Aside0.mk (Kd.S_below (by (with_reducible repeat (first | apply Kd.S_alloc | apply Kd.S_drewN | apply Kd.S_drew)); exact HO305.out) hb); have n2_ := Aside0.mk (below_step (by repeat (first | (with_reducible first | exact HB.out | apply below_alloc | apply pw_below_drewN | apply below_drew1) | exact HB.out)) hb); clear HO_11; clear HO305; clear HB; have HO_11 := n0_; have HO305 := n1_; have HB := n2_; clear n0_ n1_ n2_; (try clear hb); (try clear hb2); (try clear hk); (try clear hi)))
        go_ret
        exact ⟨by first | rfl | (simp [errW_none, errW_some] <;> rfl) | (simp [*, errW_none, errW_some] <;> rfl), by repeat (first | (with_reducible first | exact HB.out | apply below_alloc | apply pw_below_drewN | apply below_drew1) | exact HB.out)⟩
end Go.Proofs.Ytfajabboibcgpaa.PS
end
section
namespace Go.Proofs.Ytfajabboibcgpaa.PBS
open Go.RowKit Go.Proofs.YtfajabboibcgpaaW.PrintWords Go.Proofs.YtfajabboibcgpaaW.PrintLast Go.Proofs.YtfajabboibcgpaaW.PrintMore
set_option linter.unusedVariables false
theorem ev_pos {α : Type} {c : Prop} [Decidable c] {f g : Nat → Option α} {r : α} (hc : c) (h : Ev f r) : Ev (fun k => if c then f k else g k) r := by
  simp only [if_pos hc]; exact h
theorem ev_neg {α : Type} {c : Prop} [Decidable c] {f g : Nat → Option α} {r : α} (hc : ¬ c) (h : Ev g r) : Ev (fun k => if c then f k else g k) r := by
  simp only [if_neg hc]; exact h
theorem ev_bind {α β : Type} {g : Nat → Option α} {f : Nat → α → Option β} {a : α} {r : β} (h : Ev g a) (k : Ev (fun n => f n a) r) : Ev (fun n => (g n).bind (f n)) r := Ev.bind h k
theorem ev_const {α β : Type} {o : Option α} {f : Nat → α → Option β} {a : α} {r : β} (h : o = some a) (k : Ev (fun n => f n a) r) : Ev (fun n => o.bind (f n)) r := by
  subst h; exact k
theorem ev_of_eq {α : Type} {o : Option α} {r : α} (h : o = some r) : Ev (fun _ => o) r := by subst h; exact Ev.now r
theorem ev_eq {α : Type} {f : Nat → Option α} {r r' : α} (h : Ev f r) (e : r = r') : Ev f r' := e ▸ h
theorem w64 {x : Int} (h0 : -9223372036854775808 ≤ x) (h1 : x ≤ 9223372036854775807) : wrap64 x = x := by
  unfold wrap64; omega
theorem size_toList (s : ByteArray) : s.toList.length = s.size := by rw [ByteArray.toList_eq]; exact data_length s
theorem bt_get (s : ByteArray) (i : Nat) (h : i < s.size) : bt s (i : Int) = ((s.toList.getD i 0).toNat : Int) := by
  rw [ByteArray.toList_eq]
  unfold bt
  rw [dif_pos (by simpa using h)]
  have h' : i < s.data.toList.length := by rw [data_length]; exact h
  simp [List.getD_eq_getElem?_getD, List.getElem?_eq_getElem h']
  rfl
end Go.Proofs.Ytfajabboibcgpaa.PBS
end
section
namespace Go.Proofs.Ytfajabboibcgpaa.PDS
open Go.RowKit Go.Proofs.YtfajabboibcgpaaW.PrintWords Go.Proofs.YtfajabboibcgpaaW.PrintLast Go.Proofs.YtfajabboibcgpaaW.PrintMore Go.Proofs.Ytfajabboibcgpaa.PBS Go.Proofs.Ytfajabboibcgpaa.PS
set_option linter.unusedVariables false
def dstep (p : Int × Int) (c : UInt8) : Int × Int := ((p.1 + (c.toNat : Int)) % 65521, (p.2 + (p.1 + (c.toNat : Int)) % 65521) % 65521)
def dfold (p : Int × Int) (l : List UInt8) : Int × Int := l.foldl dstep p
def InP (p : Int × Int) : Prop := 0 ≤ p.1 ∧ p.1 < 65521 ∧ 0 ≤ p.2 ∧ p.2 < 65521
theorem dstep_in {p : Int × Int} {c : UInt8} : InP (dstep p c) := by
  unfold InP dstep; refine ⟨?_, ?_, ?_, ?_⟩ <;> simp only <;> omega
theorem dfold_in {p : Int × Int} (h : InP p) (l : List UInt8) : InP (dfold p l) := by
  induction l generalizing p with
  | nil => exact h
  | cons c l ih => exact ih dstep_in
def four (p : Int × Int) : ByteArray := strOfNums [p.2 / 256 % 256, p.2 % 256, p.1 / 256 % 256, p.1 % 256]
def dig (kind : Int) (s : ByteArray) : ByteArray := four (dfold (kind + 1, kind + 1) s.toList)
theorem drop_at (l : List UInt8) (i : Nat) (h : i < l.length) : l.drop i = l.getD i 0 :: l.drop (i + 1) := by
  rw [List.drop_eq_getElem_cons h]; simp [List.getD_eq_getElem?_getD, List.getElem?_eq_getElem h]
theorem step_arith {A B : Int} {c : Nat} (hA : 0 ≤ A ∧ A < 65521 ∧ 0 ≤ B ∧ B < 65521) (hc : c < 256) :
    Int.tmod (wrap64 (A + wrap64 (c : Int))) 65521 = (A + (c : Int)) % 65521 ∧ Int.tmod (wrap64 (B + (A + (c : Int)) % 65521)) 65521 = (B + (A + (c : Int)) % 65521) % 65521 := by
  have h1 : wrap64 (c : Int) = c := w64 (by omega) (by omega)
  have h2 : wrap64 (A + c) = A + c := w64 (by omega) (by omega)
  have h3 : wrap64 (B + (A + (c : Int)) % 65521) = B + (A + (c : Int)) % 65521 := w64 (by omega) (by omega)
  rw [h1, h2, h3, Int.tmod_eq_emod_of_nonneg (by omega), Int.tmod_eq_emod_of_nonneg (by omega)]
  exact ⟨rfl, rfl⟩
theorem feed_spec (s : ByteArray) (hs : s.size ≤ 1000000000000) (L : Int) (hL : 0 ≤ L ∧ L ≤ 1000000000000) : ∀ (d i : Nat) (A B : Int), i + d = s.size → InP (A, B) →
    Ev (fun k => spec_l1Feed.l0 k s (i : Int) A B L) ((dfold (A, B) (s.toList.drop i)).1, (dfold (A, B) (s.toList.drop i)).2, L + s.size) := by
  intro d
  induction d with
  | zero =>
    intro i A B hi hp
    refine Ev.step (f := fun _ => some (A, B, wrap64 (L + (s.size : Int)))) (fun k => ?_) ?_
    · simp only [spec_l1Feed.l0]; rw [if_neg (by omega)]
    · rw [List.drop_eq_nil_of_le (by rw [size_toList]; omega)]
      rw [w64 (by omega) (by omega)]
      exact Ev.now _
  | succ d ih =>
    intro i A B hi hp
    have hlt : i < s.size := by omega
    have hb := bt_get s i hlt
    have hc : (s.toList.getD i 0).toNat < 256 := UInt8.toNat_lt _
    have ha := step_arith (A := A) (B := B) hp hc
    refine Ev.step (f := fun k => spec_l1Feed.l0 k s ((i + 1 : Nat) : Int) (dstep (A, B) (s.toList.getD i 0)).1 (dstep (A, B) (s.toList.getD i 0)).2 L) (fun k => ?_) ?_
    · simp only [spec_l1Feed.l0]; rw [if_pos (by omega), if_pos (by omega), hb, ha.1, ha.2, w64 (x := (i : Int) + 1) (by omega) (by omega)]
      simp only [dstep]
      congr 1
    · rw [drop_at _ _ (by rw [size_toList]; exact hlt)]
      exact ih (i + 1) _ _ (by omega) dstep_in
theorem feed_impl (s : ByteArray) (hs : s.size ≤ 1000000000000) (L : Int) (hL : 0 ≤ L ∧ L ≤ 1000000000000) : ∀ (d i : Nat) (A B : Int), i + d = s.size → InP (A, B) →
    Ev (fun k => impl_Mix_feed.l0 k s (s.size : Int) (i : Int) A B L) ((dfold (A, B) (s.toList.drop i)).1, (dfold (A, B) (s.toList.drop i)).2, L + s.size) := by
  intro d
  induction d with
  | zero =>
    intro i A B hi hp
    refine Ev.step (f := fun _ => some (A, B, wrap64 (L + (s.size : Int)))) (fun k => ?_) ?_
    · simp only [impl_Mix_feed.l0]; rw [if_neg (by omega)]
    · rw [List.drop_eq_nil_of_le (by rw [size_toList]; omega)]
      rw [w64 (by omega) (by omega)]
      exact Ev.now _
  | succ d ih =>
    intro i A B hi hp
    have hlt : i < s.size := by omega
    have hb := bt_get s i hlt
    have hc : (s.toList.getD i 0).toNat < 256 := UInt8.toNat_lt _
    have ha := step_arith (A := A) (B := B) hp hc
    refine Ev.step (f := fun k => impl_Mix_feed.l0 k s (s.size : Int) ((i + 1 : Nat) : Int) (dstep (A, B) (s.toList.getD i 0)).1 (dstep (A, B) (s.toList.getD i 0)).2 L) (fun k => ?_) ?_
    · simp only [impl_Mix_feed.l0]; rw [if_pos (by omega), if_pos (by omega), if_pos (by omega), hb, ha.1, ha.2, w64 (x := (i : Int) + 1) (by omega) (by omega)]
      simp only [dstep]
      congr 1
    · rw [drop_at _ _ (by rw [size_toList]; exact hlt)]
      exact ih (i + 1) _ _ (by omega) dstep_in
def Kd_ (c : Int) : Prop := 97 ≤ c ∧ c ≤ 122
theorem digS (kind : Int) (hk : Kd_ kind) (s : ByteArray) (hs : s.size ≤ 1000000000000) : Ev (fun k => spec_l1Digest.f k kind s) (dig kind s) := by
  obtain ⟨h0, h1⟩ := hk
  have e1 : spec_NewMix.f kind = some (kind + 1, kind + 1, 0, true) := by
    unfold spec_NewMix.f spec_l1Kind.f
    rw [if_pos (by omega)]
    simp only [Option.bind_some, decide_eq_true h1, if_true]
    rw [w64 (x := kind) (by omega) (by omega), w64 (by omega) (by omega), Int.add_comm]
  have hp : InP (kind + 1, kind + 1) := by unfold InP; refine ⟨?_, ?_, ?_, ?_⟩ <;> simp only <;> omega
  obtain ⟨K, h⟩ := feed_spec s hs 0 (by omega) s.size 0 (kind + 1) (kind + 1) (by omega) hp
  refine ⟨K, fun k hk => ?_⟩
  have h' := h k hk
  dsimp only at h'
  rw [show ((0 : Nat) : Int) = 0 from rfl] at h'
  unfold spec_l1Digest.f spec_l1Feed.f spec_l1End.f
  simp only [e1, Option.bind_some]
  rw [h']
  simp only [Option.bind_some, List.drop_zero]
  rfl
theorem digI (kind : Int) (hk : Kd_ kind) (s : ByteArray) (hs : s.size ≤ 1000000000000) : Ev (fun k => impl_digest.f k kind s) (dig kind s) := by
  obtain ⟨h0, h1⟩ := hk
  have e1 : impl_newMix.f kind = some (kind + 1, kind + 1, 0) := by
    unfold impl_newMix.f
    rw [w64 (x := kind) (by omega) (by omega), w64 (by omega) (by omega)]
  have hp : InP (kind + 1, kind + 1) := by unfold InP; refine ⟨?_, ?_, ?_, ?_⟩ <;> simp only <;> omega
  obtain ⟨K, h⟩ := feed_impl s hs 0 (by omega) s.size 0 (kind + 1) (kind + 1) (by omega) hp
  refine ⟨K, fun k hk => ?_⟩
  have h' := h k hk
  dsimp only at h'
  rw [show ((0 : Nat) : Int) = 0 from rfl] at h'
  have hq := dfold_in hp s.toList
  unfold impl_digest.f impl_Mix_feed.f impl_Mix_end.f
  simp only [e1, Option.bind_some]
  rw [h']
  simp only [Option.bind_some, List.drop_zero]
  unfold dig four
  generalize dfold (kind + 1, kind + 1) s.toList = p at hq ⊢
  obtain ⟨q0, q1, q2, q3⟩ := hq
  rw [Int.tdiv_eq_ediv_of_nonneg q2, Int.tdiv_eq_ediv_of_nonneg q0, Int.tmod_eq_emod_of_nonneg q2, Int.tmod_eq_emod_of_nonneg q0, w64 (x := p.2 / 256) (by omega) (by omega), w64 (x := p.1 / 256) (by omega) (by omega)]
  rw [Int.emod_emod_of_dvd p.2 (Int.dvd_refl _), Int.emod_emod_of_dvd p.1 (Int.dvd_refl _)]
def one (n : Int) : ByteArray := strOfNums [n % 256]
end Go.Proofs.Ytfajabboibcgpaa.PDS
end
section
namespace Go.Proofs.Ytfajabboibcgpaa.PKS
open Go.RowKit Go.Proofs.YtfajabboibcgpaaW.PrintWords Go.Proofs.YtfajabboibcgpaaW.PrintLast Go.Proofs.YtfajabboibcgpaaW.PrintMore Go.Proofs.Ytfajabboibcgpaa.PBS Go.Proofs.Ytfajabboibcgpaa.PDS Go.Proofs.Ytfajabboibcgpaa.PS
set_option linter.unusedVariables false
theorem app_size (a b : ByteArray) : (a ++ b).size = a.size + b.size := ByteArray.size_append
end Go.Proofs.Ytfajabboibcgpaa.PKS
end
section
namespace Go.Proofs.Ytfajabboibcgpaa.PLS
open Go.RowKit Go.Proofs.YtfajabboibcgpaaW.PrintWords Go.Proofs.YtfajabboibcgpaaW.PrintLast Go.Proofs.YtfajabboibcgpaaW.PrintMore Go.Proofs.Ytfajabboibcgpaa.PBS Go.Proofs.Ytfajabboibcgpaa.PS
set_option linter.unusedVariables false
theorem rdOf_at {α : Type} (d : α) (l : List α) (i : Nat) (h : i < l.length) : rdOf d l (i : Int) = l[i] := by
  simp [rdOf, List.getD_eq_getElem?_getD, List.getElem?_eq_getElem h]
def filled {α β : Type} (f : α → β) (z : β) (l : List α) (i : Nat) : List β := (l.take i).map f ++ List.replicate (l.length - i) z
theorem filled_length {α β : Type} (f : α → β) (z : β) (l : List α) (i : Nat) (h : i ≤ l.length) : (filled f z l i).length = l.length := by
  simp [filled, Nat.min_eq_left h]; omega
theorem filled_zero {α β : Type} (f : α → β) (z : β) (l : List α) : filled f z l 0 = List.replicate l.length z := by simp [filled]
theorem filled_all {α β : Type} (f : α → β) (z : β) (l : List α) : filled f z l l.length = l.map f := by simp [filled]
theorem filled_set {α β : Type} (f : α → β) (z : β) (l : List α) (i : Nat) (h : i < l.length) : (filled f z l i).set i (f l[i]) = filled f z l (i + 1) := by
  unfold filled
  rw [List.take_succ_eq_append_getElem h, List.map_append, List.map_cons, List.map_nil]
  have hl : ((l.take i).map f).length = i := by simp [Nat.min_eq_left (Nat.le_of_lt h)]
  obtain ⟨m, hm⟩ : ∃ m, l.length - i = m + 1 := ⟨l.length - i - 1, by omega⟩
  rw [hm, List.replicate_succ, List.set_append_right _ _ (by omega), hl, Nat.sub_self, List.set_cons_zero, show l.length - (i + 1) = m by omega]
  simp
theorem toS (l : List ByteArray) (hl : l.length ≤ 2000000) : Ev (fun k => laws_toStringS.f k l) l := by
  have key : ∀ (d i : Nat), i + d = l.length → Ev (fun k => laws_toStringS.l0 k l (filled (fun x => x) ⟨#[]⟩ l i) (i : Int)) l := by
    intro d
    induction d with
    | zero =>
      intro i hi
      have hi' : i = l.length := by omega
      subst hi'
      refine Ev.step (f := fun _ => some l) (fun k => ?_) (Ev.now _)
      simp only [laws_toStringS.l0]
      rw [if_neg (by omega), filled_all]
      simp
    | succ d ih =>
      intro i hi
      have hlt : i < l.length := by omega
      refine Ev.step (f := fun k => laws_toStringS.l0 k l (filled (fun x => x) ⟨#[]⟩ l (i + 1)) ((i + 1 : Nat) : Int)) (fun k => ?_) (ih (i + 1) (by omega))
      simp only [laws_toStringS.l0]
      rw [if_pos (by omega), if_pos (by omega), if_pos (by rw [filled_length _ _ _ _ (by omega)]; omega), rdOf_at _ _ _ hlt, w64 (x := (i : Int) + 1) (by omega) (by omega)]
      rw [show ((i : Int)).toNat = i from by omega, filled_set (fun x => x) _ l i hlt]
      rfl
  refine Ev.congr (f := fun k => laws_toStringS.l0 k l (filled (fun x => x) ⟨#[]⟩ l 0) ((0 : Nat) : Int)) (fun k => ?_) (key l.length 0 (by omega))
  simp only [laws_toStringS.f]
  rw [if_pos (by omega), if_pos (by omega), filled_zero]
  rfl
theorem eqS_yes (l : List ByteArray) (hl : l.length ≤ 2000000) : Ev (fun k => laws_eqStringS.f k l l) true := by
  have key : ∀ (d i : Nat), i + d = l.length → Ev (fun k => laws_eqStringS.l0 k l l (i : Int)) true := by
    intro d
    induction d with
    | zero =>
      intro i hi
      refine Ev.step (f := fun _ => some true) (fun k => ?_) (Ev.now _)
      simp only [laws_eqStringS.l0]
      rw [if_neg (by omega)]
    | succ d ih =>
      intro i hi
      refine Ev.step (f := fun k => laws_eqStringS.l0 k l l ((i + 1 : Nat) : Int)) (fun k => ?_) (ih (i + 1) (by omega))
      simp only [laws_eqStringS.l0]
      rw [if_pos (by omega), if_pos (by omega), if_pos (by omega), if_pos trivial, w64 (x := (i : Int) + 1) (by omega) (by omega)]
      rfl
  refine Ev.congr (f := fun k => laws_eqStringS.l0 k l l ((0 : Nat) : Int)) (fun k => ?_) (key l.length 0 (by omega))
  simp only [laws_eqStringS.f]
  rw [if_pos trivial]
  rfl
def szL : List ByteArray → Nat
  | [] => 0
  | s :: l => s.size + szL l
def total (l : List ByteArray) : Nat := l.length + szL l
def Fit (l : List ByteArray) : Prop := l.length ≤ 9223372036854775807 ∧ ∀ s ∈ l, s.size ≤ 9223372036854775807
theorem szS_loop (l : List ByteArray) (hf : Fit l) : ∀ (d i : Nat) (R : Int), i + d = l.length → 0 ≤ R → R ≤ 1000000000000 → l.length ≤ 1000000000000 →
    Ev (fun k => laws_szStringS.l0 k l R (i : Int)) (if (szL (l.drop i) : Int) ≤ R then R - szL (l.drop i) else -1) := by
  intro d
  induction d with
  | zero =>
    intro i R hi h0 h1 h2
    rw [List.drop_eq_nil_of_le (by omega)]
    refine Ev.step (f := fun _ => some R) (fun k => ?_) ?_
    · simp only [laws_szStringS.l0]
      rw [if_neg (by omega)]
    · rw [show szL [] = 0 from rfl, if_pos (by omega)]
      exact ev_eq (Ev.now R) (by omega)
  | succ d ih =>
    intro i R hi h0 h1 h2
    have hlt : i < l.length := by omega
    have hs := hf.2 _ (List.getElem_mem hlt)
    rw [List.drop_eq_getElem_cons hlt, show szL (l[i] :: l.drop (i + 1)) = l[i].size + szL (l.drop (i + 1)) from rfl]
    by_cases hc : (l[i].size : Int) ≤ R
    · refine Ev.step (f := fun k => laws_szStringS.l0 k l (R - l[i].size) ((i + 1 : Nat) : Int)) (fun k => ?_) ?_
      · simp only [laws_szStringS.l0]
        rw [if_pos (by omega), if_pos (by omega), rdOf_at _ _ _ hlt, w64 (x := R - (l[i].size : Int)) (by omega) (by omega), if_neg (by omega), w64 (x := (i : Int) + 1) (by omega) (by omega)]
        rfl
      · refine ev_eq (ih (i + 1) (R - l[i].size) (by omega) (by omega) (by omega) h2) ?_
        by_cases hd : (szL (l.drop (i + 1)) : Int) ≤ R - l[i].size
        · rw [if_pos hd, if_pos (by omega)]; omega
        · rw [if_neg hd, if_neg (by omega)]
    · refine Ev.step (f := fun _ => some (-1)) (fun k => ?_) ?_
      · simp only [laws_szStringS.l0]
        rw [if_pos (by omega), if_pos (by omega), rdOf_at _ _ _ hlt, w64 (x := R - (l[i].size : Int)) (by omega) (by omega), if_pos (by omega)]
      · rw [if_neg (by omega)]
        exact Ev.now _
theorem szS (l : List ByteArray) (hf : Fit l) (R : Int) (h0 : 0 ≤ R) (h1 : R ≤ 1000000000) : Ev (fun k => laws_szStringS.f k l R) (if (total l : Int) ≤ R then R - total l else -1) := by
  have hl := hf.1
  by_cases hc : (l.length : Int) ≤ R
  · refine Ev.congr (f := fun k => laws_szStringS.l0 k l (R - l.length) ((0 : Nat) : Int)) (fun k => ?_) ?_
    · simp only [laws_szStringS.f]
      rw [w64 (x := R - (l.length : Int)) (by omega) (by omega), if_neg (by omega)]
      rfl
    · refine ev_eq (szS_loop l hf l.length 0 (R - l.length) (by omega) (by omega) (by omega) (by omega)) ?_
      rw [List.drop_zero]
      unfold total
      by_cases hd : (szL l : Int) ≤ R - l.length
      · rw [if_pos hd, if_pos (by omega)]; omega
      · rw [if_neg hd, if_neg (by omega)]
  · refine Ev.congr (f := fun _ => some (-1)) (fun k => ?_) ?_
    · simp only [laws_szStringS.f]
      rw [w64 (x := R - (l.length : Int)) (by omega) (by omega), if_pos (by omega)]
    · unfold total
      rw [if_neg (by omega)]
      exact Ev.now _
end Go.Proofs.Ytfajabboibcgpaa.PLS
end
section
namespace Go.Proofs.Ytfajabboibcgpaa.PSS
open Go.RowKit Go.Proofs.YtfajabboibcgpaaW.PrintWords Go.Proofs.YtfajabboibcgpaaW.PrintLast Go.Proofs.YtfajabboibcgpaaW.PrintMore Go.Proofs.Ytfajabboibcgpaa.PBS Go.Proofs.Ytfajabboibcgpaa.PDS Go.Proofs.Ytfajabboibcgpaa.PKS Go.Proofs.Ytfajabboibcgpaa.PLS Go.Proofs.Ytfajabboibcgpaa.PS
set_option linter.unusedVariables false
end Go.Proofs.Ytfajabboibcgpaa.PSS
end
section
namespace Go.Proofs.Ytfajabboibcgpaa.PTS
open Go.RowKit Go.Proofs.YtfajabboibcgpaaW.PrintWords Go.Proofs.YtfajabboibcgpaaW.PrintLast Go.Proofs.YtfajabboibcgpaaW.PrintMore Go.Proofs.Ytfajabboibcgpaa.PBS Go.Proofs.Ytfajabboibcgpaa.PDS Go.Proofs.Ytfajabboibcgpaa.PKS Go.Proofs.Ytfajabboibcgpaa.PLS Go.Proofs.Ytfajabboibcgpaa.PSS Go.Proofs.Ytfajabboibcgpaa.PS
set_option linter.unusedVariables false
theorem inS (a b c : Int) : spec_l1In.f a b c = some (decide (b ≤ a ∧ a ≤ c)) := by
  unfold spec_l1In.f
  by_cases h : a ≥ b
  · rw [if_pos h]; simp [show b ≤ a from h]
  · rw [if_neg h]; simp [show ¬ b ≤ a from h]
theorem inI (a b c : Int) : impl_within.f a b c = some (decide (b ≤ a ∧ a ≤ c)) := by
  unfold impl_within.f
  by_cases h : a ≥ b
  · rw [if_pos h]; simp [show b ≤ a from h]
  · rw [if_neg h]; simp [show ¬ b ≤ a from h]
end Go.Proofs.Ytfajabboibcgpaa.PTS
end
section
namespace Go.Proofs.Ytfajabboibcgpaa.PUS
open Go.RowKit Go.Proofs.YtfajabboibcgpaaW.PrintWords Go.Proofs.YtfajabboibcgpaaW.PrintLast Go.Proofs.YtfajabboibcgpaaW.PrintMore Go.Proofs.Ytfajabboibcgpaa.PBS Go.Proofs.Ytfajabboibcgpaa.PDS Go.Proofs.Ytfajabboibcgpaa.PKS Go.Proofs.Ytfajabboibcgpaa.PLS Go.Proofs.Ytfajabboibcgpaa.PSS Go.Proofs.Ytfajabboibcgpaa.PTS Go.Proofs.Ytfajabboibcgpaa.PS
set_option linter.unusedVariables false
theorem idx_any {α : Type} (l : List α) (rf : List α → Int → α) (hrf : ∀ i (h : i < l.length), rf l (i : Int) = l[i]) (L0 : Nat → List α → Int → Int → Option Int) (cl : Nat → α → Option Bool) (p : α → Bool)
    (hstep : ∀ k n i, L0 (k + 1) l n i = if i < n then (if 0 ≤ i then (if i < (l.length : Int) then ((cl k (rf l i)).bind fun t => if t = true then some i else L0 k l n (wrap64 (i + 1))) else none) else none) else some (-1))
    (hp : ∀ x ∈ l, Ev (fun k => cl k x) (p x)) (hl : l.length ≤ 4000000000000000000) : ∃ r, Ev (fun k => L0 k l (l.length : Int) 0) r ∧ decide (r ≥ 0) = l.any p := by
  have key : ∀ (d i : Nat), i + d = l.length → ∃ r, Ev (fun k => L0 k l (l.length : Int) (i : Int)) r ∧ decide (r ≥ 0) = (l.drop i).any p := by
    intro d
    induction d with
    | zero =>
      intro i hi
      refine ⟨-1, Ev.step (f := fun _ => some (-1)) (fun k => ?_) (Ev.now _), ?_⟩
      · rw [hstep, if_neg (by omega)]
      · rw [List.drop_eq_nil_of_le (by omega)]; rfl
    | succ d ih =>
      intro i hi
      have hlt : i < l.length := by omega
      have hpx := hp _ (List.getElem_mem hlt)
      rw [List.drop_eq_getElem_cons hlt, List.any_cons]
      have st : ∀ k, L0 (k + 1) l (l.length : Int) (i : Int) = (cl k l[i]).bind fun t => if t = true then some (i : Int) else L0 k l (l.length : Int) ((i + 1 : Nat) : Int) := by
        intro k
        rw [hstep, if_pos (by omega), if_pos (by omega), if_pos (by omega), hrf i hlt, w64 (x := (i : Int) + 1) (by omega) (by omega)]
        rfl
      cases hb : p l[i] with
      | true =>
        rw [hb] at hpx
        refine ⟨(i : Int), Ev.step (f := fun k => (cl k l[i]).bind fun t => if t = true then some (i : Int) else L0 k l (l.length : Int) ((i + 1 : Nat) : Int)) st (ev_bind hpx (ev_pos rfl (Ev.now _))), ?_⟩
        simp only [Bool.true_or]
        exact decide_eq_true (by omega)
      | false =>
        rw [hb] at hpx
        obtain ⟨r, hr, e⟩ := ih (i + 1) (by omega)
        refine ⟨r, Ev.step (f := fun k => (cl k l[i]).bind fun t => if t = true then some (i : Int) else L0 k l (l.length : Int) ((i + 1 : Nat) : Int)) st (ev_bind hpx (ev_neg (by simp) hr)), ?_⟩
        rw [Bool.false_or]; exact e
  obtain ⟨r, hr, e⟩ := key l.length 0 (by omega)
  exact ⟨r, hr, by rw [e, List.drop_zero]⟩
def all4 (l : List ByteArray) : Bool := l.all fun s => decide (s.size = 4)
theorem isDigI (s : ByteArray) : impl_isDigest.f s = some (decide (s.size = 4)) := by
  unfold impl_isDigest.f
  refine congrArg some ?_
  by_cases h : s.size = 4
  · rw [decide_eq_true h, h]; rfl
  · rw [decide_eq_false h]; exact beq_eq_false_iff_ne.mpr (by omega)
theorem any_not_all4 (l : List ByteArray) : (l.any fun s => !decide (s.size = 4)) = !all4 l := by
  induction l with
  | nil => rfl
  | cons a l ih => simp only [List.any_cons, all4, List.all_cons, Bool.not_and]; rw [ih]; rfl
theorem areDigI (l : List ByteArray) (m : Int) (hl : l.length ≤ 4000000000000000000) : Ev (fun k => impl_areDigests.f k l m) (decide ((l.length : Int) = m) && all4 l) := by
  unfold impl_areDigests.f
  by_cases h : (l.length : Int) = m
  · refine ev_pos h ?_
    obtain ⟨r, hr, e⟩ := idx_any l (fun l i => rdOf ByteArray.empty l i) (fun i h => rdOf_at _ l i h) slices_IndexFunc_impl_areDigests_1.l0 (fun _ s => impl_areDigests_1.f s) (fun s => !decide (s.size = 4)) (fun k n i => rfl) (fun x _ => ev_of_eq (by unfold impl_areDigests_1.f; rw [isDigI]; rfl)) hl
    have hc : Ev (fun k => slices_ContainsFunc_impl_areDigests_1.f k l) (!all4 l) := by
      rw [← any_not_all4, ← e]
      exact ev_bind (f := fun _ t => some (decide (t ≥ 0))) hr (Ev.now _)
    refine ev_eq (ev_bind (f := fun _ t => some (!t)) hc (Ev.now _)) ?_
    rw [decide_eq_true h, Bool.true_and, Bool.not_not]
  · refine ev_neg h ?_
    rw [decide_eq_false h]
    exact Ev.now _
end Go.Proofs.Ytfajabboibcgpaa.PUS
end
section
namespace Go.Proofs.Ytfajabboibcgpaa.PGS
open Go.RowKit Go.Proofs.YtfajabboibcgpaaW.PrintWords Go.Proofs.YtfajabboibcgpaaW.PrintLast Go.Proofs.YtfajabboibcgpaaW.PrintMore Go.Proofs.Ytfajabboibcgpaa.PBS Go.Proofs.Ytfajabboibcgpaa.PLS
set_option linter.unusedVariables false
theorem loop_up {β : Type} {r : β} (n : Nat) (S : Nat → Nat → Option β) (hend : Ev (S n) r) (hround : ∀ i, i < n → Ev (S (i + 1)) r → Ev (S i) r) : Ev (S 0) r := by
  have key : ∀ d i, i + d = n → Ev (S i) r := by
    intro d
    induction d with
    | zero => intro i hi; rw [show i = n by omega]; exact hend
    | succ d ih => intro i hi; exact hround i (by omega) (ih (i + 1) (by omega))
  exact key n 0 (by omega)
def wsum {α : Type} (wt : α → Nat) : List α → Nat
  | [] => 0
  | x :: l => wt x + wsum wt l
theorem wsum_mem {α : Type} (wt : α → Nat) (l : List α) : ∀ x ∈ l, wt x ≤ wsum wt l := by
  induction l with
  | nil => intro s h; cases h
  | cons a l ih =>
    intro s h
    simp only [wsum]
    rcases List.mem_cons.mp h with rfl | h
    · omega
    · have := ih s h; omega
def left (R : Int) (w : Nat) : Int := if (w : Int) ≤ R then R - w else -1
theorem left_yes {R : Int} {w : Nat} (h : (w : Int) ≤ R) : left R w = R - w := if_pos h
theorem left_no {R : Int} {w : Nat} (h : ¬ (w : Int) ≤ R) : left R w = -1 := if_neg h
theorem left_add {R : Int} {a b : Nat} (h : (a : Int) ≤ R) : left (R - a) b = left R (a + b) := by
  unfold left
  by_cases hb : (b : Int) ≤ R - a
  · rw [if_pos hb, if_pos (by omega)]; omega
  · rw [if_neg hb, if_neg (by omega)]
theorem to_list {α β : Type} (f : α → β) (z : β) (l : List α) (L0 : Nat → List α → List β → Int → Option (List β)) (hl : l.length ≤ 2000000)
    (hend : ∀ k out, L0 (k + 1) l out (l.length : Int) = some out)
    (hround : ∀ i (h : i < l.length) (out : List β), out.length = l.length → ∀ r, Ev (fun k => L0 k l (out.set i (f l[i])) ((i + 1 : Nat) : Int)) r → Ev (fun k => L0 k l out (i : Int)) r) :
    Ev (fun k => L0 k l (List.replicate l.length z) 0) (l.map f) := by
  have h := loop_up (r := l.map f) l.length (fun i k => L0 k l (filled f z l i) (i : Int)) ?_ ?_
  · rw [← filled_zero f z l]; exact h
  · refine Ev.step (f := fun _ => some (l.map f)) (fun k => ?_) (Ev.now _)
    rw [hend, filled_all]
  · intro i hi h
    refine hround i hi _ (filled_length _ _ _ _ (by omega)) _ ?_
    rw [filled_set f z l i hi]
    exact h
theorem eq_list {α : Type} (l : List α) (L0 : Nat → List α → List α → Int → Option Bool) (F : Nat → List α → List α → Option Bool) (hend : ∀ k, L0 (k + 1) l l (l.length : Int) = some true)
    (hF : ∀ k, F k l l = L0 k l l 0) (hround : ∀ i (h : i < l.length), Ev (fun k => L0 k l l ((i + 1 : Nat) : Int)) true → Ev (fun k => L0 k l l (i : Int)) true) : Ev (fun k => F k l l) true := by
  refine Ev.congr (f := fun k => L0 k l l ((0 : Nat) : Int)) (fun k => hF k) ?_
  exact loop_up l.length (fun i k => L0 k l l (i : Int)) (Ev.step (f := fun _ => some true) (fun k => hend k) (Ev.now _)) (fun i hi h => hround i hi h)
end Go.Proofs.Ytfajabboibcgpaa.PGS
end
section
namespace Go.Proofs.Ytfajabboibcgpaa.PQS
open Go.RowKit Go.Proofs.YtfajabboibcgpaaW.PrintWords Go.Proofs.YtfajabboibcgpaaW.PrintLast Go.Proofs.YtfajabboibcgpaaW.PrintMore Go.Proofs.Ytfajabboibcgpaa.PBS Go.Proofs.Ytfajabboibcgpaa.PDS Go.Proofs.Ytfajabboibcgpaa.PKS Go.Proofs.Ytfajabboibcgpaa.PLS Go.Proofs.Ytfajabboibcgpaa.PSS Go.Proofs.Ytfajabboibcgpaa.PTS Go.Proofs.Ytfajabboibcgpaa.PUS Go.Proofs.Ytfajabboibcgpaa.PGS Go.Proofs.Ytfajabboibcgpaa.PS
set_option linter.unusedVariables false
end Go.Proofs.Ytfajabboibcgpaa.PQS
end
section
namespace Go.Proofs.Ytfajabboibcgpaa.PVS
open Go.RowKit Go.Proofs.YtfajabboibcgpaaW.PrintWords Go.Proofs.YtfajabboibcgpaaW.PrintLast Go.Proofs.YtfajabboibcgpaaW.PrintMore Go.Proofs.Ytfajabboibcgpaa.PBS Go.Proofs.Ytfajabboibcgpaa.PDS Go.Proofs.Ytfajabboibcgpaa.PKS Go.Proofs.Ytfajabboibcgpaa.PLS Go.Proofs.Ytfajabboibcgpaa.PSS Go.Proofs.Ytfajabboibcgpaa.PTS Go.Proofs.Ytfajabboibcgpaa.PUS Go.Proofs.Ytfajabboibcgpaa.PGS Go.Proofs.Ytfajabboibcgpaa.PQS Go.Proofs.Ytfajabboibcgpaa.PS
set_option linter.unusedVariables false
end Go.Proofs.Ytfajabboibcgpaa.PVS
end
section
namespace Go.Proofs.Ytfajabboibcgpaa.PWS
open Go.RowKit Go.Proofs.YtfajabboibcgpaaW.PrintWords Go.Proofs.YtfajabboibcgpaaW.PrintLast Go.Proofs.YtfajabboibcgpaaW.PrintMore Go.Proofs.Ytfajabboibcgpaa.PBS Go.Proofs.Ytfajabboibcgpaa.PDS Go.Proofs.Ytfajabboibcgpaa.PKS Go.Proofs.Ytfajabboibcgpaa.PLS Go.Proofs.Ytfajabboibcgpaa.PSS Go.Proofs.Ytfajabboibcgpaa.PTS Go.Proofs.Ytfajabboibcgpaa.PUS Go.Proofs.Ytfajabboibcgpaa.PGS Go.Proofs.Ytfajabboibcgpaa.PQS Go.Proofs.Ytfajabboibcgpaa.PVS Go.Proofs.Ytfajabboibcgpaa.PS
set_option linter.unusedVariables false
noncomputable def ch (P : Prop) : Bool := @decide P (Classical.propDecidable P)
theorem ch_yes {P : Prop} (h : P) : ch P = true := @decide_eq_true P (Classical.propDecidable P) h
theorem ch_no {P : Prop} (h : ¬ P) : ch P = false := @decide_eq_false P (Classical.propDecidable P) h
theorem ch_true {P : Prop} (h : ch P = true) : P := @of_decide_eq_true P (Classical.propDecidable P) h
theorem loop_yes {β : Type} (n : Nat) (S : Nat → Nat → Option β) (Q : Nat → Prop) (b : β) (hround : ∀ r i, i < n → Q i → Ev (S (i + 1)) r → Ev (S i) r) (hend : Ev (S n) b) (hq : ∀ i, i < n → Q i) : Ev (S 0) b :=
  loop_up n S hend (fun i hi h => hround b i hi (hq i hi) h)
theorem loop_no {β : Type} (n : Nat) (S : Nat → Nat → Option β) (Q : Nat → Prop) (no : β) (hround : ∀ r i, i < n → Q i → Ev (S (i + 1)) r → Ev (S i) r) (hno : ∀ i, i < n → ¬ Q i → Ev (S i) no) (hq : ¬ ∀ i, i < n → Q i) : Ev (S 0) no := by
  refine Classical.byContradiction fun hc => hq ?_
  have key : ∀ i, i ≤ n → (¬ Ev (S i) no) ∧ ∀ j, j < i → Q j := by
    intro i
    induction i with
    | zero => intro _; exact ⟨hc, fun j hj => absurd hj (Nat.not_lt_zero j)⟩
    | succ i ih =>
      intro hi
      obtain ⟨h1, h2⟩ := ih (by omega)
      have hQ : Q i := Classical.byContradiction fun h => h1 (hno i (by omega) h)
      refine ⟨fun h => h1 (hround no i (by omega) hQ h), fun j hj => ?_⟩
      by_cases e : j = i
      · subst e; exact hQ
      · exact h2 j (by omega)
  exact (key n (Nat.le_refl n)).2
theorem has_str (l : List ByteArray) (L0 : Nat → List ByteArray → Int → Int → Option Int) (cl : Nat → ByteArray → Option Bool) (p : ByteArray → Bool)
    (hstep : ∀ k n i, L0 (k + 1) l n i = if i < n then (if 0 ≤ i then (if i < (l.length : Int) then ((cl k (rdOf ByteArray.empty l i)).bind fun t => if t = true then some i else L0 k l n (wrap64 (i + 1))) else none) else none) else some (-1))
    (hp : ∀ x ∈ l, Ev (fun k => cl k x) (p x)) (hl : l.length ≤ 4000000000000000000) : Ev (fun k => (L0 k l (l.length : Int) 0).bind fun t => some (decide (t ≥ 0))) (l.any p) := by
  obtain ⟨r, hr, e⟩ := idx_any l (fun l i => rdOf ByteArray.empty l i) (fun i h => rdOf_at _ l i h) L0 cl p hstep hp hl
  rw [← e]
  exact ev_bind (f := fun _ t => some (decide (t ≥ 0))) hr (Ev.now _)
theorem not_any {α : Type} (p : α → Bool) : ∀ l : List α, (l.any fun s => !p s) = !(l.all p) := by
  intro l
  induction l with
  | nil => rfl
  | cons x l ih => simp only [List.any_cons, List.all_cons, Bool.not_and, ih]
theorem all_at (l : List ByteArray) (p : ByteArray → Bool) : l.all p = true ↔ ∀ i, i < l.length → p (rdOf ByteArray.empty l (i : Int)) = true := by
  rw [List.all_eq_true]
  constructor
  · intro h i hi
    rw [rdOf_at _ _ _ hi]
    exact h _ (List.getElem_mem hi)
  · intro h x hx
    obtain ⟨i, hi, e⟩ := List.getElem_of_mem hx
    have := h i hi
    rw [rdOf_at _ _ _ hi, e] at this
    exact this
def keyB (s : ByteArray) : Bool := decide (1 ≤ (s.size : Int) ∧ (s.size : Int) ≤ 12)
def valB (s : ByteArray) : Bool := decide ((s.size : Int) ≤ 12)
theorem keyI (s : ByteArray) : impl_isKey.f s = some (keyB s) := by
  unfold impl_isKey.f; rw [inI]; rfl
theorem empty_iff (a : ByteArray) : a.toList = ([] : List UInt8) ↔ a.size = 0 := by
  rw [← size_toList]
  constructor
  · intro h; rw [h]; rfl
  · intro h; exact List.length_eq_zero_iff.mp h
theorem pairS (a b : ByteArray) : spec_l5Pair.f a b = some (keyB a && valB b) := by
  unfold spec_l5Pair.f spec_l5Text.f keyB valB
  simp only [Option.bind_some]
  by_cases h1 : (a.size : Int) ≤ 12
  · rw [if_pos (decide_eq_true h1)]
    by_cases h2 : (b.size : Int) ≤ 12
    · rw [if_pos (decide_eq_true h2), decide_eq_true h2, Bool.and_true]
      by_cases h3 : a.size = 0
      · rw [(empty_iff a).2 h3, decide_eq_false (by omega)]; rfl
      · have : a.toList ≠ [] := fun h => h3 ((empty_iff a).1 h)
        rw [decide_eq_true ⟨by omega, h1⟩]
        exact congrArg some (by simp [this])
    · rw [if_neg (by simp [h2]), decide_eq_false h2, Bool.and_false]
  · rw [if_neg (by simp [h1]), decide_eq_false (fun h => h1 h.2)]; rfl
abbrev tx (l : List ByteArray) (i : Nat) : ByteArray := rdOf ByteArray.empty l (i : Int)
def risesAt (K : List ByteArray) (i : Nat) : Prop := 0 < i → Op.bytesLess (tx K (i - 1)).toList (tx K i).toList = true
def pageOk (K V C : List ByteArray) (g : Int) : Prop := K.length ≤ 4 ∧ V.length = K.length ∧ (∀ i, i < K.length → keyB (tx K i) = true ∧ risesAt K i) ∧ V.all valB = true ∧ (C.length = 0 ∨ C.length = K.length + 1) ∧ all4 C = true ∧ (0 ≤ g ∧ g ≤ (K.length : Int))
theorem risingI (K : List ByteArray) (hK : K.length ≤ 2000000) : Ev (fun k => impl_areRising.f k K) (ch (∀ i, i < K.length → keyB (tx K i) = true ∧ risesAt K i)) := by
  have round : ∀ (r : Bool) i, i < K.length → (keyB (tx K i) = true ∧ risesAt K i) → Ev (fun k => impl_areRising.l0 k K K (K.length : Int) ((i + 1 : Nat) : Int)) r → Ev (fun k => impl_areRising.l0 k K K (K.length : Int) (i : Int)) r := by
    intro r i hi hq h
    refine Ev.step (f := fun k => impl_areRising.l0 k K K (K.length : Int) ((i + 1 : Nat) : Int)) (fun k => ?_) h
    simp only [impl_areRising.l0]
    rw [if_pos (by omega), if_pos (by omega), if_pos (by omega), keyI, w64 (x := (i : Int) + 1) (by omega) (by omega)]
    simp only [Option.bind_some]
    rw [if_pos hq.1]
    by_cases h0 : 0 < i
    · rw [if_pos (by omega), w64 (x := (i : Int) - 1) (by omega) (by omega), if_pos (by omega), if_pos (by omega), show (i : Int) - 1 = ((i - 1 : Nat) : Int) by omega, if_pos (hq.2 h0)]; rfl
    · rw [if_neg (by omega)]; rfl
  have stop : ∀ i, i < K.length → ¬ (keyB (tx K i) = true ∧ risesAt K i) → Ev (fun k => impl_areRising.l0 k K K (K.length : Int) (i : Int)) false := by
    intro i hi hq
    refine Ev.step (f := fun _ => some false) (fun k => ?_) (Ev.now _)
    simp only [impl_areRising.l0]
    rw [if_pos (by omega), if_pos (by omega), if_pos (by omega), keyI]
    simp only [Option.bind_some]
    by_cases hk : keyB (tx K i) = true
    · rw [if_pos hk]
      have h0 : 0 < i := Classical.byContradiction fun h => hq ⟨hk, fun h' => absurd h' h⟩
      rw [if_pos (by omega), w64 (x := (i : Int) - 1) (by omega) (by omega), if_pos (by omega), if_pos (by omega), show (i : Int) - 1 = ((i - 1 : Nat) : Int) by omega, if_neg (fun h => hq ⟨hk, fun _ => h⟩)]
    · rw [if_neg hk]
  by_cases h : ∀ i, i < K.length → keyB (tx K i) = true ∧ risesAt K i
  · rw [ch_yes h]
    exact loop_yes K.length (fun i k => impl_areRising.l0 k K K (K.length : Int) (i : Int)) _ true round (Ev.step (f := fun _ => some true) (fun k => by simp only [impl_areRising.l0]; rw [if_neg (by omega)]) (Ev.now _)) h
  · rw [ch_no h]
    exact loop_no K.length (fun i k => impl_areRising.l0 k K K (K.length : Int) (i : Int)) _ false round stop h
theorem valsI (V : List ByteArray) (hV : V.length ≤ 2000000) : Ev (fun k => slices_ContainsFunc_impl_arePairs_1.f k V) (!(V.all valB)) := by
  rw [← not_any]
  exact has_str V slices_IndexFunc_impl_arePairs_1.l0 (fun _ s => impl_arePairs_1.f s) (fun s => !valB s) (fun k n i => rfl) (fun x _ => Ev.now _) (by omega)
theorem pairsI (K V : List ByteArray) (hK : K.length ≤ 2000000) (hV : V.length ≤ 2000000) : Ev (fun k => impl_arePairs.f k K V) (ch (K.length ≤ 40 ∧ V.length = K.length ∧ (∀ i, i < K.length → keyB (tx K i) = true ∧ risesAt K i) ∧ V.all valB = true)) := by
  unfold impl_arePairs.f
  by_cases h1 : K.length ≤ 40
  · refine ev_pos (by omega) ?_
    by_cases h2 : V.length = K.length
    · refine ev_pos (by omega) (ev_bind (risingI K hK) ?_)
      by_cases h3 : ∀ i, i < K.length → keyB (tx K i) = true ∧ risesAt K i
      · rw [ch_yes h3]
        refine ev_pos rfl (ev_bind (valsI V hV) (ev_eq (Ev.now _) ?_))
        cases h4 : V.all valB with
        | true => exact (ch_yes ⟨h1, h2, h3, rfl⟩).symm
        | false => rw [ch_no (fun h => by simp at h)]; rfl
      · rw [ch_no h3]
        exact ev_eq (ev_neg (by simp) (Ev.now _)) (ch_no (fun h => h3 h.2.2.1)).symm
    · exact ev_eq (ev_neg (by omega) (Ev.now _)) (ch_no (fun h => h2 h.2.1)).symm
  · exact ev_eq (ev_neg (by omega) (Ev.now _)) (ch_no (fun h => h1 h.1)).symm
theorem goodShownI (K V C : List ByteArray) (g : Int) (hK : K.length ≤ 2000000) (hV : V.length ≤ 2000000) (hC : C.length ≤ 2000000) : Ev (fun k => impl_GoodShown.f k K V C g) (ch (pageOk K V C g)) := by
  unfold impl_GoodShown.f
  by_cases h1 : K.length ≤ 4
  · refine ev_pos (by omega) (ev_bind (pairsI K V hK hV) ?_)
    by_cases hp : K.length ≤ 40 ∧ V.length = K.length ∧ (∀ i, i < K.length → keyB (tx K i) = true ∧ risesAt K i) ∧ V.all valB = true
    · rw [ch_yes hp]
      refine ev_pos rfl ?_
      have fin : ∀ (h5 : C.length = 0 ∨ C.length = K.length + 1) (h6 : all4 C = true), Ev (fun k => (impl_within.f g 0 (K.length : Int)).bind fun t => some t) (ch (pageOk K V C g)) := by
        intro h5 h6
        refine ev_const (inI _ _ _) (ev_eq (Ev.now _) ?_)
        by_cases h7 : 0 ≤ g ∧ g ≤ (K.length : Int)
        · rw [decide_eq_true h7]; exact (ch_yes ⟨h1, hp.2.1, hp.2.2.1, hp.2.2.2, h5, h6, h7⟩).symm
        · rw [decide_eq_false h7]; exact (ch_no (fun h => h7 h.2.2.2.2.2.2)).symm
      by_cases h4 : C.length = 0
      · refine ev_pos (by omega) (fin (Or.inl h4) ?_)
        rw [List.length_eq_zero_iff.mp h4]; rfl
      · refine ev_neg (by omega) ?_
        rw [w64 (x := (K.length : Int) + 1) (by omega) (by omega)]
        refine ev_bind (areDigI C _ (by omega)) ?_
        by_cases h5 : (decide ((C.length : Int) = (K.length : Int) + 1) && all4 C) = true
        · rw [h5]
          simp only [Bool.and_eq_true, decide_eq_true_eq] at h5
          exact ev_pos rfl (fin (Or.inr (by omega)) h5.2)
        · refine ev_neg h5 (ev_eq (Ev.now _) (ch_no (fun h => h5 ?_)).symm)
          obtain ⟨_, _, _, _, h8, h9, _⟩ := h
          rw [h9, Bool.and_true]
          exact decide_eq_true (by omega)
    · rw [ch_no hp]
      exact ev_eq (ev_neg (by simp) (Ev.now _)) (ch_no (fun h => hp ⟨by omega, h.2.1, h.2.2.1, h.2.2.2.1⟩)).symm
  · exact ev_eq (ev_neg (by omega) (Ev.now _)) (ch_no (fun h => h1 h.1)).symm
theorem goodShownS (K V C : List ByteArray) (g : Int) (hK : K.length ≤ 2000000) (hV : V.length ≤ 2000000) (hC : C.length ≤ 2000000) : Ev (fun k => spec_GoodShown.f k K V C g) (ch (pageOk K V C g)) := by
  have endS : (∀ i, i < K.length → (i < V.length ∧ valB (tx V i) = true) ∧ keyB (tx K i) = true ∧ risesAt K i) → Ev (fun k => spec_GoodShown.l1 k C (C.length : Int) 0 K V C g) (ch (pageOk K V C g)) := by
    intro hA
    have round : ∀ (r : Bool) i, i < C.length → (tx C i).size = 4 → Ev (fun k => spec_GoodShown.l1 k C (C.length : Int) ((i + 1 : Nat) : Int) K V C g) r → Ev (fun k => spec_GoodShown.l1 k C (C.length : Int) (i : Int) K V C g) r := by
      intro r i hi hq h
      refine Ev.step (f := fun k => spec_GoodShown.l1 k C (C.length : Int) ((i + 1 : Nat) : Int) K V C g) (fun k => ?_) h
      simp only [spec_GoodShown.l1]
      rw [if_pos (by omega), if_pos (by omega), if_pos (by omega), if_pos (show ((rdOf ByteArray.empty C (i : Int)).size : Int) = 4 from by have : (rdOf ByteArray.empty C (i : Int)).size = 4 := hq; omega), w64 (x := (i : Int) + 1) (by omega) (by omega)]
      rfl
    by_cases h6 : ∀ i, i < C.length → (tx C i).size = 4
    · have h6' : all4 C = true := (all_at C _).2 (fun i hi => decide_eq_true (h6 i hi))
      refine loop_yes C.length (fun i k => spec_GoodShown.l1 k C (C.length : Int) (i : Int) K V C g) _ _ round ?_ h6
      refine Ev.step (f := fun k => if (K.length : Int) ≤ 4 then (if (V.length : Int) = (K.length : Int) then (if (C.length : Int) = 0 then ((spec_l1In.f g 0 (K.length : Int)).bind fun t252 => (some t252)) else (if (C.length : Int) = (wrap64 ((K.length : Int) + 1)) then ((spec_l1In.f g 0 (K.length : Int)).bind fun t253 => (some t253)) else (some false))) else (some false)) else (some false)) (fun k => by simp only [spec_GoodShown.l1]; rw [if_neg (by omega)]) ?_
      by_cases h1 : K.length ≤ 4
      · refine ev_pos (by omega) ?_
        by_cases h2 : V.length = K.length
        · refine ev_pos (by omega) ?_
          have hv : V.all valB = true := (all_at V _).2 (fun i hi => (hA i (by omega)).1.2)
          have hk : ∀ i, i < K.length → keyB (tx K i) = true ∧ risesAt K i := fun i hi => (hA i hi).2
          have fin : ∀ (h5 : C.length = 0 ∨ C.length = K.length + 1), Ev (fun k => (spec_l1In.f g 0 (K.length : Int)).bind fun t => some t) (ch (pageOk K V C g)) := by
            intro h5
            refine ev_const (inS _ _ _) (ev_eq (Ev.now _) ?_)
            by_cases h7 : 0 ≤ g ∧ g ≤ (K.length : Int)
            · rw [decide_eq_true h7]; exact (ch_yes ⟨h1, h2, hk, hv, h5, h6', h7⟩).symm
            · rw [decide_eq_false h7]; exact (ch_no (fun h => h7 h.2.2.2.2.2.2)).symm
          by_cases h4 : C.length = 0
          · exact ev_pos (by omega) (fin (Or.inl h4))
          · refine ev_neg (by omega) ?_
            rw [w64 (x := (K.length : Int) + 1) (by omega) (by omega)]
            by_cases h5 : C.length = K.length + 1
            · exact ev_pos (by omega) (fin (Or.inr h5))
            · exact ev_eq (ev_neg (by omega) (Ev.now _)) (ch_no (fun h => by have := h.2.2.2.2.1; omega)).symm
        · exact ev_eq (ev_neg (by omega) (Ev.now _)) (ch_no (fun h => h2 h.2.1)).symm
      · exact ev_eq (ev_neg (by omega) (Ev.now _)) (ch_no (fun h => h1 h.1)).symm
    · rw [ch_no (fun h => h6 (fun i hi => of_decide_eq_true ((all_at C _).1 h.2.2.2.2.2.1 i hi)))]
      refine loop_no C.length (fun i k => spec_GoodShown.l1 k C (C.length : Int) (i : Int) K V C g) _ false round (fun i hi hq => ?_) h6
      refine Ev.step (f := fun _ => some false) (fun k => ?_) (Ev.now _)
      simp only [spec_GoodShown.l1]
      rw [if_pos (by omega), if_pos (by omega), if_pos (by omega), if_neg (show ¬ ((rdOf ByteArray.empty C (i : Int)).size : Int) = 4 from by have : ¬ (rdOf ByteArray.empty C (i : Int)).size = 4 := hq; omega)]
  have round : ∀ (r : Bool) i, i < K.length → ((i < V.length ∧ valB (tx V i) = true) ∧ keyB (tx K i) = true ∧ risesAt K i) → Ev (fun k => spec_GoodShown.l0 k K (K.length : Int) ((i + 1 : Nat) : Int) K V C g) r → Ev (fun k => spec_GoodShown.l0 k K (K.length : Int) (i : Int) K V C g) r := by
    intro r i hi hq h
    refine Ev.step (f := fun k => spec_GoodShown.l0 k K (K.length : Int) ((i + 1 : Nat) : Int) K V C g) (fun k => ?_) h
    have hb : (keyB (tx K i) && valB (tx V i)) = true := by rw [hq.1.2, hq.2.1]; rfl
    have hi2 := hq.1.1
    simp only [spec_GoodShown.l0]
    rw [if_pos (by omega), if_pos (by omega), if_pos (by omega), if_neg (by omega), if_pos (by omega), pairS, w64 (x := (i : Int) + 1) (by omega) (by omega)]
    simp only [Option.bind_some]
    rw [if_pos hb]
    by_cases h0 : 0 < i
    · rw [if_pos (by omega), w64 (x := (i : Int) - 1) (by omega) (by omega), if_pos (by omega), if_pos (by omega), show (i : Int) - 1 = ((i - 1 : Nat) : Int) by omega, if_pos (hq.2.2 h0)]; rfl
    · rw [if_neg (by omega)]; rfl
  have stop : ∀ i, i < K.length → ¬ ((i < V.length ∧ valB (tx V i) = true) ∧ keyB (tx K i) = true ∧ risesAt K i) → Ev (fun k => spec_GoodShown.l0 k K (K.length : Int) (i : Int) K V C g) false := by
    intro i hi hq
    refine Ev.step (f := fun _ => some false) (fun k => ?_) (Ev.now _)
    simp only [spec_GoodShown.l0]
    rw [if_pos (by omega), if_pos (by omega), if_pos (by omega)]
    by_cases hi2 : i < V.length
    · rw [if_neg (by omega), if_pos (by omega), pairS]
      simp only [Option.bind_some]
      by_cases hb : (keyB (tx K i) && valB (tx V i)) = true
      · rw [if_pos hb]
        rw [Bool.and_eq_true] at hb
        have h0 : 0 < i := Classical.byContradiction fun h => hq ⟨⟨hi2, hb.2⟩, hb.1, fun h' => absurd h' h⟩
        rw [if_pos (by omega), w64 (x := (i : Int) - 1) (by omega) (by omega), if_pos (by omega), if_pos (by omega), show (i : Int) - 1 = ((i - 1 : Nat) : Int) by omega, if_neg (fun h => hq ⟨⟨hi2, hb.2⟩, hb.1, fun _ => h⟩)]
      · rw [if_neg hb]
    · rw [if_pos (by omega)]
  by_cases hA : ∀ i, i < K.length → (i < V.length ∧ valB (tx V i) = true) ∧ keyB (tx K i) = true ∧ risesAt K i
  · exact loop_yes K.length (fun i k => spec_GoodShown.l0 k K (K.length : Int) (i : Int) K V C g) _ _ round (Ev.step (f := fun k => spec_GoodShown.l1 k C (C.length : Int) 0 K V C g) (fun k => by simp only [spec_GoodShown.l0]; rw [if_neg (by omega)]) (endS hA)) hA
  · refine ev_eq (loop_no K.length (fun i k => spec_GoodShown.l0 k K (K.length : Int) (i : Int) K V C g) _ false round stop hA) (ch_no (fun h => hA (fun i hi => ?_))).symm
    obtain ⟨_, h2, h3, h4, _⟩ := h
    exact ⟨⟨by omega, (all_at V _).1 h4 i (by omega)⟩, h3 i hi⟩
theorem bytes_l1 : ∀ k x C n i, impl_Shown_bytes.l1 k x C n i = spec_l6Bytes.l1 k x C n i := by
  intro k
  induction k with
  | zero => intros; rfl
  | succ k ih => intros; simp only [impl_Shown_bytes.l1, spec_l6Bytes.l1, ih]
theorem bytes_l0 : ∀ k x K0 n i K V C g, impl_Shown_bytes.l0 k x K0 n i K V C g = spec_l6Bytes.l0 k x K0 n i K V C g := by
  intro k
  induction k with
  | zero => intros; rfl
  | succ k ih => intros; simp only [impl_Shown_bytes.l0, spec_l6Bytes.l0, ih, bytes_l1, impl_oneByte.f, Option.bind_some]
theorem bytes_eq (k : Nat) (K V C : List ByteArray) (g : Int) : impl_Shown_bytes.f k K V C g = spec_l6Bytes.f k K V C g := by
  unfold impl_Shown_bytes.f spec_l6Bytes.f impl_oneByte.f
  simp only [Option.bind_some]
  exact bytes_l0 _ _ _ _ _ _ _ _ _
theorem bytesS (K V C : List ByteArray) (g : Int) (h : pageOk K V C g) : ∃ r, Ev (fun k => spec_l6Bytes.f k K V C g) r ∧ r.size ≤ 1000 := by
  obtain ⟨h1, h2, h3, h4, h5, h6, _⟩ := h
  have hc : C.length ≤ 5 := by omega
  have kids : ∀ (d i : Nat) (x : ByteArray), i + d = C.length → x.size ≤ 500 + 4 * i → ∃ r, Ev (fun k => spec_l6Bytes.l1 k x C (C.length : Int) (i : Int)) r ∧ r.size ≤ 1000 := by
    intro d
    induction d with
    | zero =>
      intro i x hi hx
      refine ⟨x, Ev.step (f := fun _ => some x) (fun k => ?_) (Ev.now _), by omega⟩
      simp only [spec_l6Bytes.l1]; rw [if_neg (by omega)]
    | succ d ih =>
      intro i x hi hx
      have hs : (rdOf ByteArray.empty C (i : Int)).size = 4 := of_decide_eq_true ((all_at C _).1 h6 i (by omega))
      obtain ⟨r, hr, hz⟩ := ih (i + 1) (x ++ rdOf ByteArray.empty C (i : Int)) (by omega) (by rw [app_size]; omega)
      refine ⟨r, Ev.step (f := fun k => spec_l6Bytes.l1 k (x ++ rdOf ByteArray.empty C (i : Int)) C (C.length : Int) ((i + 1 : Nat) : Int)) (fun k => ?_) hr, hz⟩
      simp only [spec_l6Bytes.l1]
      rw [if_pos (by omega), if_pos (by omega), if_pos (by omega), if_pos (by omega), w64 (x := (i : Int) + 1) (by omega) (by omega)]
      rfl
  have e1 : ∀ n : Int, (strOfNums [n % 256]).size = 1 := fun n => by rw [strOfNums_size]; rfl
  have pairs : ∀ (d i : Nat) (x : ByteArray), i + d = K.length → x.size ≤ 1 + 40 * i → ∃ r, Ev (fun k => spec_l6Bytes.l0 k x K (K.length : Int) (i : Int) K V C g) r ∧ r.size ≤ 1000 := by
    intro d
    induction d with
    | zero =>
      intro i x hi hx
      obtain ⟨r, hr, hz⟩ := kids C.length 0 (x ++ strOfNums [(C.length : Int) % 256]) (by omega) (by rw [app_size, e1]; omega)
      refine ⟨r, Ev.step (f := fun k => spec_l6Bytes.l1 k (x ++ strOfNums [(C.length : Int) % 256]) C (C.length : Int) ((0 : Nat) : Int)) (fun k => ?_) hr, hz⟩
      simp only [spec_l6Bytes.l0, Option.bind_some]
      rw [if_neg (by omega), if_pos (by rw [e1]; omega)]
      rfl
    | succ d ih =>
      intro i x hi hx
      have ks := of_decide_eq_true (h3 i (by omega)).1
      have vs := of_decide_eq_true ((all_at V _).1 h4 i (by omega))
      have ks' : (rdOf ByteArray.empty K (i : Int)).size ≤ 12 := by
        have : ((rdOf ByteArray.empty K (i : Int)).size : Int) ≤ 12 := ks.2
        omega
      have vs' : (rdOf ByteArray.empty V (i : Int)).size ≤ 12 := by omega
      obtain ⟨r, hr, hz⟩ := ih (i + 1) (x ++ (strOfNums [((rdOf ByteArray.empty K (i : Int)).size : Int) % 256] ++ rdOf ByteArray.empty K (i : Int) ++ strOfNums [((rdOf ByteArray.empty V (i : Int)).size : Int) % 256] ++ rdOf ByteArray.empty V (i : Int))) (by omega) (by simp only [app_size, e1]; omega)
      refine ⟨r, Ev.step (f := fun k => spec_l6Bytes.l0 k (x ++ (strOfNums [((rdOf ByteArray.empty K (i : Int)).size : Int) % 256] ++ rdOf ByteArray.empty K (i : Int) ++ strOfNums [((rdOf ByteArray.empty V (i : Int)).size : Int) % 256] ++ rdOf ByteArray.empty V (i : Int))) K (K.length : Int) ((i + 1 : Nat) : Int) K V C g) (fun k => ?_) hr, hz⟩
      simp only [spec_l6Bytes.l0, Option.bind_some]
      rw [if_pos (by omega), if_pos (by omega), if_pos (by omega), if_pos (by rw [e1]; omega), if_pos (by omega), if_pos (by simp only [app_size, e1]; omega), if_pos (by simp only [app_size, e1]; omega), if_pos (by simp only [app_size, e1]; omega), w64 (x := (i : Int) + 1) (by omega) (by omega)]
      rfl
  obtain ⟨r, hr, hz⟩ := pairs K.length 0 (strOfNums [(K.length : Int) % 256]) (by omega) (by rw [e1]; omega)
  exact ⟨r, hr, hz⟩
theorem k103 : Kd_ 103 := ⟨by decide, by decide⟩
theorem szShown (K V C : List ByteArray) (g : Int) (h1 : Fit K) (h2 : Fit V) (h3 : Fit C) (R : Int) (h0 : 0 ≤ R) (hR : R ≤ 1000000000) : Ev (fun k => laws_szShown.f k K V C g R) (left R (total K + (total V + total C))) := by
  refine ev_bind (szS K h1 R h0 hR) ?_
  by_cases c1 : (total K : Int) ≤ R
  · rw [if_pos c1]
    refine ev_neg (by omega) (ev_bind (szS V h2 (R - total K) (by omega) (by omega)) ?_)
    by_cases c2 : (total V : Int) ≤ R - total K
    · rw [if_pos c2]
      refine ev_neg (by omega) (ev_bind (szS C h3 (R - total K - total V) (by omega) (by omega)) ?_)
      by_cases c3 : (total C : Int) ≤ R - total K - total V
      · rw [if_pos c3]
        refine ev_neg (by omega) (ev_eq (Ev.now _) ?_)
        rw [left_yes (by omega)]; omega
      · rw [if_neg c3]
        refine ev_pos (by omega) (ev_eq (Ev.now _) ?_)
        rw [left_no (by omega)]
    · rw [if_neg c2]
      refine ev_pos (by omega) (ev_eq (Ev.now _) ?_)
      rw [left_no (by omega)]
  · rw [if_neg c1]
    refine ev_pos (by omega) (ev_eq (Ev.now _) ?_)
    rw [left_no (by omega)]
theorem toShown (K V C : List ByteArray) (g : Int) (hK : K.length ≤ 2000000) (hV : V.length ≤ 2000000) (hC : C.length ≤ 2000000) : Ev (fun k => laws_toShown.f k K V C g) (K, V, C, g) :=
  ev_bind (toS K hK) (ev_bind (toS V hV) (ev_bind (toS C hC) (Ev.now _)))
theorem eqShown (K V C : List ByteArray) (g : Int) (hK : K.length ≤ 2000000) (hV : V.length ≤ 2000000) (hC : C.length ≤ 2000000) : Ev (fun k => laws_eqShown.f k K V C g K V C g) true :=
  ev_bind (eqS_yes K hK) (ev_pos rfl (ev_bind (eqS_yes V hV) (ev_pos rfl (ev_bind (eqS_yes C hC) (ev_pos rfl (ev_pos rfl (Ev.now _)))))))
end Go.Proofs.Ytfajabboibcgpaa.PWS
end
section
namespace Go.Proofs.Ytfajabboibcgpaa.POS
open Go.RowKit Go.Proofs.YtfajabboibcgpaaW.PrintWords Go.Proofs.YtfajabboibcgpaaW.PrintLast Go.Proofs.YtfajabboibcgpaaW.PrintMore Go.Proofs.Ytfajabboibcgpaa.PBS Go.Proofs.Ytfajabboibcgpaa.PLS Go.Proofs.Ytfajabboibcgpaa.PGS Go.Proofs.Ytfajabboibcgpaa.PWS Go.Proofs.Ytfajabboibcgpaa.PS
set_option linter.unusedVariables false
theorem bl_trans : ∀ (x y z : List UInt8), Op.bytesLess x y = true → Op.bytesLess y z = true → Op.bytesLess x z = true := by
  intro x
  induction x with
  | nil =>
    intro y z h1 h2
    cases z with
    | nil => cases y <;> simp [Op.bytesLess] at h2
    | cons c z => rfl
  | cons a x ih =>
    intro y z h1 h2
    cases y with
    | nil => simp [Op.bytesLess] at h1
    | cons b y =>
      cases z with
      | nil => simp [Op.bytesLess] at h2
      | cons c z =>
        simp only [Op.bytesLess, Bool.or_eq_true, Bool.and_eq_true, decide_eq_true_eq, beq_iff_eq] at h1 h2 ⊢
        rcases h1 with h1 | ⟨rfl, h1⟩
        · rcases h2 with h2 | ⟨rfl, h2⟩
          · exact Or.inl (UInt8.lt_trans h1 h2)
          · exact Or.inl h1
        · rcases h2 with h2 | ⟨rfl, h2⟩
          · exact Or.inl h2
          · exact Or.inr ⟨rfl, ih y z h1 h2⟩
abbrev lessB (a b : ByteArray) : Bool := Op.bytesLess a.toList b.toList
def Lower (K : List ByteArray) (key : ByteArray) (i : Nat) : Prop := i ≤ K.length ∧ (∀ j, j < i → lessB (tx K j) key = true) ∧ (∀ j, i ≤ j → j < K.length → lessB (tx K j) key = false)
theorem rises_less {K : List ByteArray} (h : ∀ i, i < K.length → risesAt K i) : ∀ (d j : Nat), j + d + 1 < K.length → lessB (tx K j) (tx K (j + d + 1)) = true := by
  intro d
  induction d with
  | zero => intro j hj; exact h (j + 1) hj (by omega)
  | succ d ih =>
    intro j hj
    have h1 := ih j (by omega)
    have h2 := h (j + d + 1 + 1) hj (by omega)
    exact bl_trans _ _ _ h1 h2
theorem rises_lt {K : List ByteArray} (h : ∀ i, i < K.length → risesAt K i) (j m : Nat) (hj : j < m) (hm : m < K.length) : lessB (tx K j) (tx K m) = true := by
  have := rises_less h (m - j - 1) j (by omega)
  rw [show j + (m - j - 1) + 1 = m by omega] at this
  exact this
theorem cmpLess (a b : ByteArray) : cmp_Less_string.f a b = some (lessB a b) := by
  unfold cmp_Less_string.f cmp_isNaN_string.f
  simp only [Option.bind_some, bne_self_eq_false]
  rfl
theorem search (K : List ByteArray) (key : ByteArray) (hK : K.length ≤ 1000000000) (hr : ∀ i, i < K.length → risesAt K i) : ∃ i b, Ev (fun k => slices_BinarySearch_string_string.f k K key) ((i : Nat), b) ∧ Lower K key i := by
  have loop : ∀ (d lo hi : Nat), hi - lo = d → lo ≤ hi → hi ≤ K.length → (∀ j, j < lo → lessB (tx K j) key = true) → (∀ j, hi ≤ j → j < K.length → lessB (tx K j) key = false) →
      ∃ i b, Ev (fun k => slices_BinarySearch_string_string.l0 k K key (K.length : Int) (lo : Int) (hi : Int)) (((i : Nat) : Int), b) ∧ Lower K key i := by
    intro d
    induction d using Nat.strongRecOn with
    | _ d ih =>
      intro lo hi hd h1 h2 h3 h4
      by_cases hc : lo < hi
      · have em : wrap64 ((IntKind.u64.wrap (wrap64 ((lo : Int) + (hi : Int)))) / 2) = (((lo + hi) / 2 : Nat) : Int) := by
          have e1 : wrap64 ((lo : Int) + (hi : Int)) = ((lo + hi : Nat) : Int) := by rw [w64 (by omega) (by omega)]; omega
          have e2 : IntKind.u64.wrap ((lo + hi : Nat) : Int) = ((lo + hi : Nat) : Int) := by
            have e3 : IntKind.u64.wrap ((lo + hi : Nat) : Int) = ((lo + hi : Nat) : Int) % 18446744073709551616 := by simp [IntKind.wrap, IntKind.bits, IntKind.signed]
            rw [e3]; omega
          rw [e1, e2, w64 (by omega) (by omega)]; omega
        have hm1 : lo ≤ (lo + hi) / 2 := by omega
        have hm2 : (lo + hi) / 2 < hi := by omega
        generalize (lo + hi) / 2 = m at em hm1 hm2
        have e5 : wrap64 ((m : Int) + 1) = ((m + 1 : Nat) : Int) := by rw [w64 (by omega) (by omega)]; rfl
        have c1 : (lo : Int) < (hi : Int) := by omega
        have c2 : 0 ≤ (m : Int) := by omega
        have c3 : (m : Int) < (K.length : Int) := by omega
        have st : ∀ {r}, Ev (fun k => if lessB (tx K m) key = true then slices_BinarySearch_string_string.l0 k K key (K.length : Int) ((m + 1 : Nat) : Int) (hi : Int) else slices_BinarySearch_string_string.l0 k K key (K.length : Int) (lo : Int) (m : Int)) r → Ev (fun k => slices_BinarySearch_string_string.l0 k K key (K.length : Int) (lo : Int) (hi : Int)) r := fun h => Ev.step (fun k => by
          simp only [slices_BinarySearch_string_string.l0]
          rw [em, if_pos c1, if_pos c2, if_pos c3, cmpLess, e5]
          rfl) h
        cases hl : lessB (tx K m) key with
        | true =>
          obtain ⟨i, b, hr', hL⟩ := ih (hi - (m + 1)) (by omega) (m + 1) hi rfl (by omega) h2 (fun j hj => by
            by_cases e : j = m
            · rw [e]; exact hl
            · exact bl_trans _ _ _ (rises_lt hr j m (by omega) (by omega)) hl) h4
          exact ⟨i, b, st (ev_pos hl hr'), hL⟩
        | false =>
          obtain ⟨i, b, hr', hL⟩ := ih (m - lo) (by omega) lo m rfl hm1 (by omega) h3 (fun j hj hjl => by
            by_cases e : j = m
            · rw [e]; exact hl
            · cases hx : lessB (tx K j) key with
              | false => rfl
              | true =>
                have := bl_trans _ _ _ (rises_lt hr m j (by omega) hjl) hx
                rw [show Op.bytesLess (tx K m).toList key.toList = false from hl] at this
                cases this)
          exact ⟨i, b, st (ev_neg (by simp [hl]) hr'), hL⟩
      · have e : lo = hi := by omega
        subst e
        have hL : Lower K key lo := ⟨h2, h3, h4⟩
        have c1 : ¬ (lo : Int) < (lo : Int) := by omega
        by_cases hn : lo < K.length
        · have c2 : (lo : Int) < (K.length : Int) := by omega
          have c3 : 0 ≤ (lo : Int) := by omega
          by_cases he : (tx K lo).toList = key.toList
          · exact ⟨lo, true, Ev.step (f := fun _ => some ((lo : Int), true)) (fun k => by simp only [slices_BinarySearch_string_string.l0]; rw [if_neg c1, if_pos c2, if_pos c3, if_pos c2, if_pos he]) (Ev.now _), hL⟩
          · refine ⟨lo, false, Ev.step (f := fun _ => some ((lo : Int), false)) (fun k => ?_) (Ev.now _), hL⟩
            simp only [slices_BinarySearch_string_string.l0, slices_isNaN_string.f]
            rw [if_neg c1, if_pos c2, if_pos c3, if_pos c2, if_neg he]
            simp only [Option.bind_some, bne_self_eq_false]
            rfl
        · have c2 : ¬ (lo : Int) < (K.length : Int) := by omega
          exact ⟨lo, false, Ev.step (f := fun _ => some ((lo : Int), false)) (fun k => by simp only [slices_BinarySearch_string_string.l0]; rw [if_neg c1, if_neg c2]) (Ev.now _), hL⟩
  exact loop K.length 0 K.length (by omega) (by omega) (Nat.le_refl _) (fun j hj => by omega) (fun j hj hjl => by omega)
theorem lessI (K : List ByteArray) (key : ByteArray) (hK : K.length ≤ 1000000000) (hr : ∀ i, i < K.length → risesAt K i) : ∃ i : Nat, Ev (fun k => impl_less.f k K key) (i : Int) ∧ Lower K key i := by
  obtain ⟨i, b, h, hL⟩ := search K key hK hr
  exact ⟨i, ev_bind h (Ev.now _), hL⟩
theorem lessS (K V C : List ByteArray) (g : Int) (key : ByteArray) (i : Nat) (hK : K.length ≤ 1000000000) (hL : Lower K key i) : Ev (fun k => spec_l6Less.f k K V C g key) (i : Int) := by
  have key_ : ∀ (d j : Nat), j + d = i → Ev (fun k => spec_l6Less.l0 k key (j : Int) K V C g) (i : Int) := by
    intro d
    induction d with
    | zero =>
      intro j hj
      have hj' : j = i := by omega
      subst hj'
      by_cases hn : j < K.length
      · have hx := hL.2.2 j (Nat.le_refl _) hn
        refine Ev.step (f := fun _ => some (j : Int)) (fun k => ?_) (Ev.now _)
        simp only [spec_l6Less.l0]
        rw [if_pos (by omega), if_pos (by omega), if_neg (by rw [show Op.bytesLess (rdOf ByteArray.empty K (j : Int)).toList key.toList = false from hx]; simp)]
      · exact Ev.step (f := fun _ => some (j : Int)) (fun k => by simp only [spec_l6Less.l0]; rw [if_neg (by omega)]) (Ev.now _)
    | succ d ih =>
      intro j hj
      have hx := hL.2.1 j (by omega)
      have hn := hL.1
      refine Ev.step (f := fun k => spec_l6Less.l0 k key ((j + 1 : Nat) : Int) K V C g) (fun k => ?_) (ih (j + 1) (by omega))
      simp only [spec_l6Less.l0]
      rw [if_pos (by omega), if_pos (by omega), if_pos hx, w64 (x := (j : Int) + 1) (by omega) (by omega)]
      rfl
  exact key_ i 0 (by omega)
end Go.Proofs.Ytfajabboibcgpaa.POS
end
section
namespace Go.Proofs.Ytfajabboibcgpaa.PIS
open Go.RowKit Go.Proofs.YtfajabboibcgpaaW.PrintWords Go.Proofs.YtfajabboibcgpaaW.PrintLast Go.Proofs.YtfajabboibcgpaaW.PrintMore Go.Proofs.Ytfajabboibcgpaa.PBS Go.Proofs.Ytfajabboibcgpaa.PLS Go.Proofs.Ytfajabboibcgpaa.PGS
set_option linter.unusedVariables false
theorem sz_list2 {α : Type} (wt : α → Nat) (l : List α) (rf : List α → Int → α) (hrf : ∀ i (h : i < l.length), rf l (i : Int) = l[i]) (L0 : Nat → List α → Int → Int → Option Int) (F : Nat → List α → Int → Option Int) (e : Nat → α → Int → Option Int)
    (hstep : ∀ k R i, L0 (k + 1) l R i = if i < (l.length : Int) then (if 0 ≤ i then ((e k (rf l i) R).bind fun t => if t < 0 then some (-1) else L0 k l t (wrap64 (i + 1))) else none) else some R)
    (hF : ∀ k R, F k l R = if wrap64 (R - (l.length : Int)) < 0 then some (-1) else L0 k l (wrap64 (R - (l.length : Int))) 0)
    (he : ∀ x ∈ l, ∀ R, 0 ≤ R → R ≤ 1000000000 → Ev (fun k => e k x R) (left R (wt x))) (hl : l.length ≤ 9223372036854775807) (R : Int) (h0 : 0 ≤ R) (h1 : R ≤ 1000000000) :
    Ev (fun k => F k l R) (left R (l.length + wsum wt l)) := by
  have key : ∀ (d i : Nat) (R : Int), i + d = l.length → 0 ≤ R → R ≤ 1000000000 → l.length ≤ 1000000000000 → Ev (fun k => L0 k l R (i : Int)) (left R (wsum wt (l.drop i))) := by
    intro d
    induction d with
    | zero =>
      intro i R hi h0 h1 h2
      rw [List.drop_eq_nil_of_le (by omega)]
      refine Ev.step (f := fun _ => some R) (fun k => by rw [hstep, if_neg (by omega)]) ?_
      refine ev_eq (Ev.now R) ?_
      show R = left R 0
      unfold left
      rw [if_pos (by omega)]; omega
    | succ d ih =>
      intro i R hi h0 h1 h2
      have hlt : i < l.length := by omega
      have hx := he _ (List.getElem_mem hlt) R h0 h1
      rw [List.drop_eq_getElem_cons hlt, show wsum wt (l[i] :: l.drop (i + 1)) = wt l[i] + wsum wt (l.drop (i + 1)) from rfl]
      refine Ev.step (f := fun k => (e k l[i] R).bind fun t => if t < 0 then some (-1) else L0 k l t ((i + 1 : Nat) : Int)) (fun k => ?_) ?_
      · rw [hstep, if_pos (by omega), if_pos (by omega), hrf i hlt, w64 (x := (i : Int) + 1) (by omega) (by omega)]; rfl
      · refine ev_bind hx ?_
        by_cases hc : ((wt l[i] : Nat) : Int) ≤ R
        · rw [left_yes hc]
          refine ev_neg (by omega) ?_
          refine ev_eq (ih (i + 1) (R - wt l[i]) (by omega) (by omega) (by omega) h2) (left_add hc)
        · rw [left_no hc]
          refine ev_pos (by omega) (ev_eq (Ev.now _) ?_)
          unfold left
          rw [if_neg (by omega)]
  by_cases hc : (l.length : Int) ≤ R
  · refine Ev.congr (f := fun k => L0 k l (R - l.length) ((0 : Nat) : Int)) (fun k => ?_) ?_
    · rw [hF, w64 (x := R - (l.length : Int)) (by omega) (by omega), if_neg (by omega)]; rfl
    · refine ev_eq (key l.length 0 (R - l.length) (by omega) (by omega) (by omega) (by omega)) ?_
      rw [List.drop_zero]; exact left_add hc
  · refine Ev.congr (f := fun _ => some (-1)) (fun k => ?_) (ev_eq (Ev.now _) ?_)
    · rw [hF, w64 (x := R - (l.length : Int)) (by omega) (by omega), if_pos (by omega)]
    · unfold left; rw [if_neg (by omega)]
end Go.Proofs.Ytfajabboibcgpaa.PIS
end
section
namespace Go.Proofs.Ytfajabboibcgpaa.Pure
open Go.RowKit Go.Proofs.YtfajabboibcgpaaW.PrintWords Go.Proofs.YtfajabboibcgpaaW.PrintLast Go.Proofs.YtfajabboibcgpaaW.PrintMore Go.Proofs.Ytfajabboibcgpaa.PBS Go.Proofs.Ytfajabboibcgpaa.PDS Go.Proofs.Ytfajabboibcgpaa.PKS Go.Proofs.Ytfajabboibcgpaa.PLS Go.Proofs.Ytfajabboibcgpaa.PTS Go.Proofs.Ytfajabboibcgpaa.PUS Go.Proofs.Ytfajabboibcgpaa.PGS Go.Proofs.Ytfajabboibcgpaa.PWS Go.Proofs.Ytfajabboibcgpaa.POS Go.Proofs.Ytfajabboibcgpaa.PS
set_option linter.unusedVariables false
theorem rdI_at (l : List S168) (i : Nat) (h : i < l.length) : rd_T168 l (i : Int) = l[i] := by
  simp [rd_T168, List.getD_eq_getElem?_getD, List.getElem?_eq_getElem h]
theorem rdL_at (l : List S167) (i : Nat) (h : i < l.length) : rd_T167 l (i : Int) = l[i] := by
  simp [rd_T167, List.getD_eq_getElem?_getD, List.getElem?_eq_getElem h]
def Sm (x : S168) : Prop := x.f0.length ≤ 2000000 ∧ x.f1.length ≤ 2000000 ∧ x.f2.length ≤ 2000000
def PageOk (x : S168) : Prop := pageOk x.f0 x.f1 x.f2 x.f3
theorem pageDig (x : S168) (h : PageOk x) : ∃ d, Ev (fun k => spec_l6Digest.f k x.f0 x.f1 x.f2 x.f3) d ∧ Ev (fun k => impl_Shown_digest.f k x.f0 x.f1 x.f2 x.f3) d := by
  obtain ⟨r, hr, hz⟩ := bytesS _ _ _ _ h
  exact ⟨dig 103 r, ev_bind hr (ev_bind (digS 103 k103 r (by omega)) (Ev.now _)), ev_bind (Ev.congr (fun k => bytes_eq k _ _ _ _) hr) (ev_bind (digI 103 k103 r (by omega)) (Ev.now _))⟩
def missT : ByteArray × Bool × Bool := (⟨#[]⟩, false, false)
theorem check_two (l : List S168) (key : ByteArray) (hl : l.length ≤ 2000000) (hp : ∀ i (h : i < l.length), PageOk l[i]) : ∀ (d i : Nat) (want : ByteArray), i + d = l.length → 1 ≤ d →
    ∃ r, Ev (fun k => spec_l6Check.l0 k key l want l (l.length : Int) (i : Int)) r ∧ Ev (fun k => impl_CheckKey.l0 k want key l l (l.length : Int) (i : Int)) r := by
  intro d
  induction d with
  | zero => intro i want hi h1; omega
  | succ d ih =>
    intro i want hi _
    have hlt : i < l.length := by omega
    have hok := hp i hlt
    have eq := rdI_at l i hlt
    obtain ⟨D, dS, dI⟩ := pageDig l[i] hok
    obtain ⟨h1, h2, h3, h4, h5, h6, h7⟩ := hok
    have hris : ∀ j, j < l[i].f0.length → risesAt l[i].f0 j := fun j hj => (h3 j hj).2
    obtain ⟨n, lI, hL⟩ := lessI l[i].f0 key (by omega) hris
    have lS := lessS l[i].f0 l[i].f1 l[i].f2 l[i].f3 key n (by omega) hL
    have hn := hL.1
    have wl : wrap64 ((l.length : Int) - 1) = (l.length : Int) - 1 := w64 (by omega) (by omega)
    have wi : wrap64 ((i : Int) + 1) = ((i + 1 : Nat) : Int) := by rw [w64 (by omega) (by omega)]; rfl
    -- whether the key is there
    obtain ⟨b, hb⟩ : ∃ b : Bool, b = decide (n < l[i].f0.length ∧ (tx l[i].f0 n).toList = key.toList) := ⟨_, rfl⟩
    have g1 : (i : Int) < (l.length : Int) := by omega
    have g2 : 0 ≤ (i : Int) := by omega
    have g3 : 0 ≤ (n : Int) := by omega
    -- the reference's first part
    have sS : ∀ {r}, Ev (fun k => spec_l6Check.j1 k key l want (i : Int) (n : Int) b l (l.length : Int) (i : Int) l[i].f0 l[i].f1 l[i].f2 l[i].f3) r → Ev (fun k => spec_l6Check.l0 k key l want l (l.length : Int) (i : Int)) r := by
      intro r hr
      refine Ev.step (f := fun k => (spec_l6Less.f k l[i].f0 l[i].f1 l[i].f2 l[i].f3 key).bind fun t => (if t < (l[i].f0.length : Int) then (if 0 ≤ t then (spec_l6Check.j1 k key l want (i : Int) t ((rdOf ByteArray.empty l[i].f0 t).toList == key.toList) l (l.length : Int) (i : Int) l[i].f0 l[i].f1 l[i].f2 l[i].f3) else (none)) else (spec_l6Check.j1 k key l want (i : Int) t false l (l.length : Int) (i : Int) l[i].f0 l[i].f1 l[i].f2 l[i].f3))) (fun k => ?_) ?_
      · simp only [spec_l6Check.l0]
        rw [if_pos g1, if_pos g2, if_pos g1, eq]
      · refine ev_bind lS ?_
        by_cases c : n < l[i].f0.length
        · refine ev_pos (by omega) (ev_pos g3 ?_)
          have e : ((rdOf ByteArray.empty l[i].f0 (n : Int)).toList == key.toList) = b := by
            rw [hb]
            by_cases e : (tx l[i].f0 n).toList = key.toList
            · rw [decide_eq_true ⟨c, e⟩]; exact beq_iff_eq.mpr e
            · rw [decide_eq_false (fun h => e h.2)]; exact beq_eq_false_iff_ne.mpr e
          rw [e]; exact hr
        · refine ev_neg (by omega) ?_
          have e : false = b := by rw [hb, decide_eq_false (fun h => c h.1)]
          rw [e]; exact hr
    obtain ⟨b2, hb2⟩ : ∃ b2 : Bool, b2 = decide (l[i].f3 < (l[i].f0.length : Int) ∧ (rdOf ByteArray.empty l[i].f0 l[i].f3).toList = key.toList) := ⟨_, rfl⟩
    have hat : impl_hasAt.f l[i].f0 l[i].f3 key = some b2 := by
      unfold impl_hasAt.f
      by_cases c : l[i].f3 < (l[i].f0.length : Int)
      · rw [if_pos c, if_pos h7.1, hb2]
        by_cases e : (rdOf ByteArray.empty l[i].f0 l[i].f3).toList = key.toList
        · rw [decide_eq_true ⟨c, e⟩]; exact congrArg some (beq_iff_eq.mpr e)
        · rw [decide_eq_false (fun h => e h.2)]; exact congrArg some (beq_eq_false_iff_ne.mpr e)
      · rw [if_neg c, hb2, decide_eq_false (fun h => c h.1)]
    have sI : ∀ {r}, Ev (fun k => (if D.toList = want.toList then (impl_CheckKey.j2 k key l (i : Int) b2 l (l.length : Int) (i : Int) (l[i].f3 != (n : Int)) l[i].f0 l[i].f1 l[i].f2 l[i].f3) else (impl_CheckKey.j2 k key l (i : Int) b2 l (l.length : Int) (i : Int) true l[i].f0 l[i].f1 l[i].f2 l[i].f3))) r → Ev (fun k => impl_CheckKey.l0 k want key l l (l.length : Int) (i : Int)) r := by
      intro r hr
      refine Ev.step (f := fun k => (impl_Shown_digest.f k l[i].f0 l[i].f1 l[i].f2 l[i].f3).bind fun t => (if t.toList = want.toList then ((impl_less.f k l[i].f0 key).bind fun u => (impl_CheckKey.j2 k key l (i : Int) b2 l (l.length : Int) (i : Int) (l[i].f3 != u) l[i].f0 l[i].f1 l[i].f2 l[i].f3)) else (impl_CheckKey.j2 k key l (i : Int) b2 l (l.length : Int) (i : Int) true l[i].f0 l[i].f1 l[i].f2 l[i].f3))) (fun k => ?_) ?_
      · simp only [impl_CheckKey.l0]
        rw [if_pos g1, if_pos g2, if_pos g1, eq, hat]
        rfl
      · refine ev_bind dI ?_
        by_cases c : D.toList = want.toList
        · refine ev_pos c (ev_bind lI ?_)
          simp only [if_pos c] at hr
          exact hr
        · simp only [if_neg c] at hr
          exact ev_neg c hr
    have noI : Ev (fun k => impl_CheckKey.j2 k key l (i : Int) b2 l (l.length : Int) (i : Int) true l[i].f0 l[i].f1 l[i].f2 l[i].f3) missT := Ev.step (f := fun _ => some missT) (fun k => by simp only [impl_CheckKey.j2]; rw [if_pos trivial]; rfl) (Ev.now _)
    have noS : ∀ la, Ev (fun k => spec_l6Check.j2 k key l want (n : Int) b la l (l.length : Int) (i : Int) true l[i].f0 l[i].f1 l[i].f2 l[i].f3) missT := fun la => Ev.step (f := fun _ => some missT) (fun k => by simp only [spec_l6Check.j2]; rw [if_pos trivial]; rfl) (Ev.now _)
    have jS : ∀ {r}, Ev (fun k => (if D.toList = want.toList then (if l[i].f3 = (n : Int) then (if ((i : Int) == (l.length : Int) - 1) = true then (if b = true then (spec_l6Check.j2 k key l want (n : Int) b ((i : Int) == (l.length : Int) - 1) l (l.length : Int) (i : Int) false l[i].f0 l[i].f1 l[i].f2 l[i].f3) else (spec_l6Check.j2 k key l want (n : Int) b ((i : Int) == (l.length : Int) - 1) l (l.length : Int) (i : Int) (decide ((l[i].f2.length : Int) > 0)) l[i].f0 l[i].f1 l[i].f2 l[i].f3)) else (if b = true then (spec_l6Check.j2 k key l want (n : Int) b ((i : Int) == (l.length : Int) - 1) l (l.length : Int) (i : Int) true l[i].f0 l[i].f1 l[i].f2 l[i].f3) else (if (l[i].f2.length : Int) = 0 then (spec_l6Check.j2 k key l want (n : Int) b ((i : Int) == (l.length : Int) - 1) l (l.length : Int) (i : Int) true l[i].f0 l[i].f1 l[i].f2 l[i].f3) else (spec_l6Check.j2 k key l want (n : Int) b ((i : Int) == (l.length : Int) - 1) l (l.length : Int) (i : Int) false l[i].f0 l[i].f1 l[i].f2 l[i].f3)))) else (spec_l6Check.j2 k key l want (n : Int) b ((i : Int) == (l.length : Int) - 1) l (l.length : Int) (i : Int) true l[i].f0 l[i].f1 l[i].f2 l[i].f3)) else (spec_l6Check.j2 k key l want (n : Int) b ((i : Int) == (l.length : Int) - 1) l (l.length : Int) (i : Int) true l[i].f0 l[i].f1 l[i].f2 l[i].f3))) r → Ev (fun k => spec_l6Check.l0 k key l want l (l.length : Int) (i : Int)) r := by
      intro r hr
      refine sS (Ev.step (f := fun k => _) (fun k => by simp only [spec_l6Check.j1]; rw [wl]) ?_)
      exact ev_bind dS hr
    by_cases c1 : D.toList = want.toList
    · by_cases c2 : l[i].f3 = (n : Int)
      · have eb : b2 = b := by
          rw [hb2, hb, c2]
          by_cases e : n < l[i].f0.length ∧ (tx l[i].f0 n).toList = key.toList
          · rw [decide_eq_true e]; exact decide_eq_true ⟨by omega, e.2⟩
          · rw [decide_eq_false e]; exact decide_eq_false (fun h => e ⟨by omega, h.2⟩)
        have eg : (l[i].f3 != (n : Int)) = false := bne_eq_false_iff_eq.mpr c2
        have sI2 : ∀ {r}, Ev (fun k => (if (i : Int) = (l.length : Int) - 1 then (impl_CheckKey.j3 k key l (i : Int) b l (l.length : Int) (i : Int) b l[i].f0 l[i].f1 l[i].f2 l[i].f3) else (impl_CheckKey.j3 k key l (i : Int) b l (l.length : Int) (i : Int) false l[i].f0 l[i].f1 l[i].f2 l[i].f3))) r → Ev (fun k => impl_CheckKey.l0 k want key l l (l.length : Int) (i : Int)) r := by
          intro r hr
          refine sI (ev_pos c1 ?_)
          rw [eb, eg]
          refine Ev.step (f := fun k => _) (fun k => by simp only [impl_CheckKey.j2]; rw [if_neg (by simp), wl]) ?_
          exact hr
        by_cases c3 : (i : Int) = (l.length : Int) - 1
        · have e3 : ((i : Int) == (l.length : Int) - 1) = true := beq_iff_eq.mpr c3
          cases b with
          | true =>
            have hin := of_decide_eq_true hb.symm
            have hv : (n : Int) < (l[i].f1.length : Int) := by omega
            refine ⟨(rdOf ByteArray.empty l[i].f1 (n : Int), true, true), jS (ev_pos c1 (ev_pos c2 (ev_pos e3 (ev_pos rfl ?_)))), sI2 (ev_pos c3 ?_)⟩
            · rw [e3]
              refine Ev.step (f := fun k => spec_l6Check.j3 k key l want (n : Int) true l (l.length : Int) (i : Int) true l[i].f0 l[i].f1 l[i].f2 l[i].f3) (fun k => by simp only [spec_l6Check.j2]; rw [if_neg (by simp), if_pos trivial]) ?_
              exact Ev.step (f := fun k => some (rdOf ByteArray.empty l[i].f1 (n : Int), true, true)) (fun k => by simp only [spec_l6Check.j3]; rw [if_pos trivial, if_pos g3, if_pos hv]) (Ev.now _)
            · rw [c2]
              exact Ev.step (f := fun k => some (rdOf ByteArray.empty l[i].f1 (n : Int), true, true)) (fun k => by simp only [impl_CheckKey.j3]; rw [if_pos trivial, if_pos g3, if_pos hv]) (Ev.now _)
          | false =>
            have iI : Ev (fun k => impl_CheckKey.j3 k key l (i : Int) false l (l.length : Int) (i : Int) false l[i].f0 l[i].f1 l[i].f2 l[i].f3) (⟨#[]⟩, false, ((l[i].f2.length : Int) == 0)) :=
              Ev.step (f := fun k => some (⟨#[]⟩, false, ((l[i].f2.length : Int) == 0))) (fun k => by simp only [impl_CheckKey.j3]; rw [if_neg (by simp), wl, if_pos c3]) (Ev.now _)
            by_cases c4 : (l[i].f2.length : Int) > 0
            · refine ⟨missT, jS (ev_pos c1 (ev_pos c2 (ev_pos e3 (ev_neg (by simp) ?_)))), sI2 (ev_pos c3 (ev_eq iI ?_))⟩
              · rw [decide_eq_true c4]; exact noS _
              · have : ((l[i].f2.length : Int) == 0) = false := beq_eq_false_iff_ne.mpr (by omega)
                rw [this]; rfl
            · refine ⟨(⟨#[]⟩, false, true), jS (ev_pos c1 (ev_pos c2 (ev_pos e3 (ev_neg (by simp) ?_)))), sI2 (ev_pos c3 (ev_eq iI ?_))⟩
              · rw [decide_eq_false c4, e3]
                refine Ev.step (f := fun k => spec_l6Check.j3 k key l want (n : Int) true l (l.length : Int) (i : Int) false l[i].f0 l[i].f1 l[i].f2 l[i].f3) (fun k => by simp only [spec_l6Check.j2]; rw [if_neg (by simp), if_pos trivial]) ?_
                refine Ev.step (f := fun k => spec_l6Check.l0 k key l want l (l.length : Int) ((i + 1 : Nat) : Int)) (fun k => by simp only [spec_l6Check.j3]; rw [if_neg (by simp), if_pos trivial, wi]) ?_
                exact Ev.step (f := fun k => some (⟨#[]⟩, false, true)) (fun k => by simp only [spec_l6Check.l0]; rw [if_neg (by omega)]) (Ev.now _)
              · have : ((l[i].f2.length : Int) == 0) = true := beq_iff_eq.mpr (by omega)
                rw [this]
        · have e3 : ((i : Int) == (l.length : Int) - 1) = false := beq_eq_false_iff_ne.mpr c3
          have n3 : ¬ ((i : Int) == (l.length : Int) - 1) = true := by rw [e3]; simp
          cases b with
          | true =>
            refine ⟨missT, jS (ev_pos c1 (ev_pos c2 (ev_neg n3 (ev_pos rfl (noS _))))), sI2 (ev_neg c3 ?_)⟩
            exact Ev.step (f := fun k => some missT) (fun k => by simp only [impl_CheckKey.j3]; rw [if_neg (by simp), wl, if_neg c3, if_pos trivial]; rfl) (Ev.now _)
          | false =>
            by_cases c4 : (l[i].f2.length : Int) = 0
            · refine ⟨missT, jS (ev_pos c1 (ev_pos c2 (ev_neg n3 (ev_neg (by simp) (ev_pos c4 (noS _)))))), sI2 (ev_neg c3 ?_)⟩
              exact Ev.step (f := fun k => some missT) (fun k => by simp only [impl_CheckKey.j3]; rw [if_neg (by simp), wl, if_neg c3, if_neg (by simp), if_pos c4]; rfl) (Ev.now _)
            · have hk : (n : Int) < (l[i].f2.length : Int) := by omega
              obtain ⟨r, r1, r2⟩ := ih (i + 1) (rdOf ByteArray.empty l[i].f2 (n : Int)) (by omega) (by omega)
              refine ⟨r, jS (ev_pos c1 (ev_pos c2 (ev_neg n3 (ev_neg (by simp) (ev_neg c4 ?_))))), sI2 (ev_neg c3 ?_)⟩
              · rw [e3]
                refine Ev.step (f := fun k => spec_l6Check.j3 k key l want (n : Int) false l (l.length : Int) (i : Int) false l[i].f0 l[i].f1 l[i].f2 l[i].f3) (fun k => by simp only [spec_l6Check.j2]; rw [if_neg (by simp), if_neg (by simp)]) ?_
                exact Ev.step (f := fun k => spec_l6Check.l0 k key l (rdOf ByteArray.empty l[i].f2 (n : Int)) l (l.length : Int) ((i + 1 : Nat) : Int)) (fun k => by simp only [spec_l6Check.j3]; rw [if_neg (by simp), if_neg (by simp), if_pos g3, if_pos hk, wi]) r1
              · rw [c2]
                exact Ev.step (f := fun k => impl_CheckKey.l0 k (rdOf ByteArray.empty l[i].f2 (n : Int)) key l l (l.length : Int) ((i + 1 : Nat) : Int)) (fun k => by simp only [impl_CheckKey.j3]; rw [if_neg (by simp), wl, if_neg c3, if_neg (by simp), if_neg c4, if_pos g3, if_pos hk, wi]) r2
      · refine ⟨missT, jS (ev_pos c1 (ev_neg c2 (noS _))), sI (ev_pos c1 ?_)⟩
        rw [show (l[i].f3 != (n : Int)) = true from bne_iff_ne.mpr c2]
        exact noI
    · exact ⟨missT, jS (ev_neg c1 (noS _)), sI (ev_neg c1 noI)⟩
theorem good_two (x : S168) (h : Sm x) : Ev (fun k => spec_GoodShown.f k x.f0 x.f1 x.f2 x.f3) (ch (PageOk x)) ∧ Ev (fun k => impl_GoodShown.f k x.f0 x.f1 x.f2 x.f3) (ch (PageOk x)) :=
  ⟨goodShownS _ _ _ _ h.1 h.2.1 h.2.2, goodShownI _ _ _ _ h.1 h.2.1 h.2.2⟩
theorem has_bad (l : List S168) (hl : l.length ≤ 2000000) (hs : ∀ x ∈ l, Sm x) : Ev (fun k => slices_ContainsFunc_impl_CheckKey_1.f k l) (l.any fun x => !ch (PageOk x)) := by
  obtain ⟨r, hr, e⟩ := idx_any l rd_T168 (fun i h => rdI_at l i h) slices_IndexFunc_impl_CheckKey_1.l0 (fun k x => impl_CheckKey_1.f k x.f0 x.f1 x.f2 x.f3) (fun x => !ch (PageOk x)) (fun k n i => rfl) (fun x hx => ev_bind (f := fun _ t => some (!t)) (good_two x (hs x hx)).2 (Ev.now _)) (by omega)
  rw [← e]
  exact ev_bind (f := fun _ t => some (decide (t ≥ 0))) hr (Ev.now _)
theorem checkKey_two (a : ByteArray) (key : ByteArray) (l : List S168) (hl : l.length ≤ 2000000) (hs : ∀ x ∈ l, Sm x) : ∃ r, Ev (fun k => spec_CheckKey.f k a key l) r ∧ Ev (fun k => impl_CheckKey.f k a key l) r := by
  have round : ∀ (r : ByteArray × Bool × Bool) i, i < l.length → PageOk (rd_T168 l (i : Int)) → Ev (fun k => spec_CheckKey.l0 k a key l l (l.length : Int) ((i + 1 : Nat) : Int)) r → Ev (fun k => spec_CheckKey.l0 k a key l l (l.length : Int) (i : Int)) r := by
    intro r i hi hq h
    have hg := (good_two (rd_T168 l (i : Int)) (by rw [rdI_at l i hi]; exact hs _ (List.getElem_mem hi))).1
    rw [ch_yes hq] at hg
    refine Ev.step (f := fun k => _) (fun k => by simp only [spec_CheckKey.l0]; rw [if_pos (by omega), if_pos (by omega), if_pos (by omega), w64 (x := (i : Int) + 1) (by omega) (by omega)]) ?_
    exact ev_bind hg (ev_pos rfl h)
  have yI : Ev (fun k => impl_CheckKey.j0 k a key l true) missT := Ev.step (f := fun _ => some missT) (fun k => by simp only [impl_CheckKey.j0]; rw [if_pos trivial]; rfl) (Ev.now _)
  have hbad := has_bad l hl hs
  by_cases hA : ∀ i, i < l.length → PageOk (rd_T168 l (i : Int))
  · have hp : ∀ i (h : i < l.length), PageOk l[i] := fun i h => by have := hA i h; rw [rdI_at l i h] at this; exact this
    have ea : (l.any fun x => !ch (PageOk x)) = false := by
      rw [List.any_eq_false]
      intro x hx
      obtain ⟨j, hj, e⟩ := List.getElem_of_mem hx
      rw [← e, ch_yes (hp j hj)]; simp
    rw [ea] at hbad
    have fin : ∀ r, Ev (fun k => if (a.size : Int) = 4 then ((spec_l5Pair.f key (⟨#[]⟩ : ByteArray)).bind fun t333 => (if t333 = true then ((spec_l1In.f (l.length : Int) 1 10).bind fun t334 => (if t334 = true then ((spec_l6Check.f k a key l).bind fun bt335 => (some (bt335.1, bt335.2.1, bt335.2.2))) else (some ((⟨#[]⟩ : ByteArray), false, false)))) else (some ((⟨#[]⟩ : ByteArray), false, false)))) else (some ((⟨#[]⟩ : ByteArray), false, false))) r → Ev (fun k => spec_CheckKey.f k a key l) r := fun r hr =>
      loop_yes l.length (fun i k => spec_CheckKey.l0 k a key l l (l.length : Int) (i : Int)) _ r round (Ev.step (fun k => by simp only [spec_CheckKey.l0]; rw [if_neg (by omega)]) hr) hA
    by_cases c1 : a.size = 4
    · cases c2 : keyB key with
      | false =>
        have e : (keyB key && valB (⟨#[]⟩ : ByteArray)) = false := by rw [c2]; rfl
        exact ⟨missT, fin _ (ev_pos (by omega) (ev_const (pairS key ⟨#[]⟩) (ev_neg (by simp [e]) (Ev.now _)))), ev_const (isDigI a) (ev_pos (decide_eq_true c1) (ev_const (keyI key) (ev_neg (by simp [c2]) yI)))⟩
      | true =>
        have e : (keyB key && valB (⟨#[]⟩ : ByteArray)) = true := by rw [c2]; rfl
        by_cases c3 : 1 ≤ (l.length : Int) ∧ (l.length : Int) ≤ 10
        · obtain ⟨⟨x, y, z⟩, h1, h2⟩ := check_two l key hl hp l.length 0 a (by omega) (by omega)
          have h1' : Ev (fun k => spec_l6Check.f k a key l) (x, y, z) := h1
          refine ⟨(x, y, z), fin _ (ev_pos (by omega) (ev_const (pairS key ⟨#[]⟩) (ev_pos e (ev_const (inS _ _ _) (ev_pos (decide_eq_true c3) (ev_bind h1' (Ev.now _))))))), ev_const (isDigI a) (ev_pos (decide_eq_true c1) (ev_const (keyI key) (ev_pos c2 (ev_const (inI _ _ _) (ev_pos (decide_eq_true c3) (ev_bind hbad ?_))))))⟩
          exact Ev.step (f := fun k => impl_CheckKey.l0 k a key l l (l.length : Int) ((0 : Nat) : Int)) (fun k => by simp only [impl_CheckKey.j0]; rw [if_neg (by simp)]; rfl) h2
        · exact ⟨missT, fin _ (ev_pos (by omega) (ev_const (pairS key ⟨#[]⟩) (ev_pos e (ev_const (inS _ _ _) (ev_neg (by simpa using c3) (Ev.now _)))))), ev_const (isDigI a) (ev_pos (decide_eq_true c1) (ev_const (keyI key) (ev_pos c2 (ev_const (inI _ _ _) (ev_neg (by simpa using c3) yI)))))⟩
    · exact ⟨missT, fin _ (ev_neg (by omega) (Ev.now _)), ev_const (isDigI a) (ev_neg (by simp [c1]) yI)⟩
  · have ea : (l.any fun x => !ch (PageOk x)) = true := by
      cases h : l.any fun x => !ch (PageOk x) with
      | true => rfl
      | false =>
        refine absurd (fun i hi => ?_) hA
        rw [List.any_eq_false] at h
        have := h _ (List.getElem_mem hi)
        rw [rdI_at l i hi]
        exact ch_true (by simpa using this)
    rw [ea] at hbad
    refine ⟨missT, loop_no l.length (fun i k => spec_CheckKey.l0 k a key l l (l.length : Int) (i : Int)) _ missT round (fun i hi hq => ?_) hA, ?_⟩
    · have hg := (good_two (rd_T168 l (i : Int)) (by rw [rdI_at l i hi]; exact hs _ (List.getElem_mem hi))).1
      rw [ch_no hq] at hg
      refine Ev.step (f := fun k => _) (fun k => by simp only [spec_CheckKey.l0]; rw [if_pos (by omega), if_pos (by omega), if_pos (by omega)]) ?_
      exact ev_bind hg (ev_neg (by simp) (Ev.now _))
    · refine ev_const (isDigI a) ?_
      by_cases c1 : a.size = 4
      · refine ev_pos (decide_eq_true c1) (ev_const (keyI key) ?_)
        cases c2 : keyB key with
        | false => exact ev_neg (by simp) yI
        | true =>
          refine ev_pos rfl (ev_const (inI _ _ _) ?_)
          by_cases c3 : 1 ≤ (l.length : Int) ∧ (l.length : Int) ≤ 10
          · exact ev_pos (decide_eq_true c3) (ev_bind hbad yI)
          · exact ev_neg (by simpa using c3) yI
      · exact ev_neg (by simp [c1]) yI
def wtP (x : S167) : Nat := total x.f0 + (total x.f1 + total x.f2)
def FitP (x : S167) : Prop := Fit x.f0 ∧ Fit x.f1 ∧ Fit x.f2
def convP (x : S167) : S168 := ⟨x.f0, x.f1, x.f2, x.f3⟩
theorem szPages (l : List S167) (hf : l.length ≤ 9223372036854775807 ∧ ∀ x ∈ l, FitP x) (R : Int) (h0 : 0 ≤ R) (h1 : R ≤ 1000000000) : Ev (fun k => laws_szShownS.f k l R) (left R (l.length + wsum wtP l)) :=
  PIS.sz_list2 wtP l rd_T167 (fun i h => rdL_at l i h) laws_szShownS.l0 laws_szShownS.f (fun k x R => laws_szShown.f k x.f0 x.f1 x.f2 x.f3 R) (fun k R i => rfl) (fun k R => rfl)
    (fun x hx R h0 h1 => szShown _ _ _ _ (hf.2 x hx).1 (hf.2 x hx).2.1 (hf.2 x hx).2.2 R h0 h1) hf.1 R h0 h1
theorem small_pages (l : List S167) (h : l.length + wsum wtP l ≤ 1048576) : ∀ x ∈ l, x.f0.length ≤ 2000000 ∧ x.f1.length ≤ 2000000 ∧ x.f2.length ≤ 2000000 := by
  intro x hx
  have h1 := wsum_mem wtP l x hx
  have h2 : wtP x = (x.f0.length + szL x.f0) + ((x.f1.length + szL x.f1) + (x.f2.length + szL x.f2)) := rfl
  exact ⟨by omega, by omega, by omega⟩
theorem toPages (l : List S167) (hl : l.length ≤ 2000000) (hs : ∀ x ∈ l, x.f0.length ≤ 2000000 ∧ x.f1.length ≤ 2000000 ∧ x.f2.length ≤ 2000000) : Ev (fun k => laws_toShownS.f k l) (l.map convP) := by
  refine Ev.congr (f := fun k => laws_toShownS.l0 k l (List.replicate l.length z168) 0) (fun k => ?_) (to_list convP z168 l laws_toShownS.l0 hl (fun k out => ?_) (fun i h out ho r hr => ?_))
  · simp only [laws_toShownS.f]
    rw [if_pos (by omega), if_pos (by omega)]
    rfl
  · simp only [laws_toShownS.l0]; rw [if_neg (by omega)]
  · have hx := hs _ (List.getElem_mem h)
    refine Ev.step (f := fun k => (laws_toShown.f k l[i].f0 l[i].f1 l[i].f2 l[i].f3).bind fun b => laws_toShownS.l0 k l (out.set i (⟨b.1, b.2.1, b.2.2.1, b.2.2.2⟩ : S168)) ((i + 1 : Nat) : Int)) (fun k => ?_) (ev_bind (toShown _ _ _ _ hx.1 hx.2.1 hx.2.2) hr)
    simp only [laws_toShownS.l0]
    rw [if_pos (by omega), if_pos (by omega), rdL_at l i h, w64 (x := (i : Int) + 1) (by omega) (by omega)]
    congr 1
    funext b
    rw [if_pos (by omega)]
    rfl
theorem eqPages (l : List S168) (hl : l.length ≤ 2000000) (hs : ∀ x ∈ l, Sm x) : Ev (fun k => laws_eqShownS.f k l l) true := by
  refine eq_list l laws_eqShownS.l0 laws_eqShownS.f (fun k => ?_) (fun k => ?_) (fun i h hr => ?_)
  · simp only [laws_eqShownS.l0]; rw [if_neg (by omega)]
  · simp only [laws_eqShownS.f]; rw [if_pos trivial]
  · have hx := hs _ (List.getElem_mem h)
    refine Ev.step (f := fun k => (laws_eqShown.f k l[i].f0 l[i].f1 l[i].f2 l[i].f3 l[i].f0 l[i].f1 l[i].f2 l[i].f3).bind fun t => if t = true then laws_eqShownS.l0 k l l ((i + 1 : Nat) : Int) else some false) (fun k => ?_) (ev_bind (eqShown _ _ _ _ hx.1 hx.2.1 hx.2.2) (ev_pos rfl hr))
    simp only [laws_eqShownS.l0]
    rw [if_pos (by omega), if_pos (by omega), if_pos (by omega), rdI_at l i h, w64 (x := (i : Int) + 1) (by omega) (by omega)]
    rfl
theorem FnExactCheckKey (a key : ByteArray) (l : List S167) (h0 : a.size ≤ maxLen) (h1 : key.size ≤ maxLen)
    (hf : l.length ≤ maxLen ∧ ∀ x ∈ l, (x.f0.length ≤ maxLen ∧ ∀ s ∈ x.f0, s.size ≤ maxLen) ∧ (x.f1.length ≤ maxLen ∧ ∀ s ∈ x.f1, s.size ≤ maxLen) ∧ (x.f2.length ≤ maxLen ∧ ∀ s ∈ x.f2, s.size ≤ maxLen) ∧ (Lit.int .i64 x.f3).wf = true) : ∃ k, laws_FnExactCheckKey.f k a key l = some true := by
  refine Ev.rounds ?_
  unfold laws_FnExactCheckKey.f
  by_cases c0 : (a.size : Int) > 1048576
  · simp only [if_pos c0]; exact Ev.now _
  simp only [if_neg c0]
  by_cases c1 : (key.size : Int) > 1048576
  · simp only [if_pos c1]; exact Ev.now _
  simp only [if_neg c1]
  have hz := szPages l ⟨hf.1, fun x hx => ⟨(hf.2 x hx).1, (hf.2 x hx).2.1, (hf.2 x hx).2.2.1⟩⟩ 1048576 (by omega) (by omega)
  by_cases ht : ((l.length + wsum wtP l : Nat) : Int) ≤ 1048576
  · rw [left_yes ht] at hz
    have hl : l.length ≤ 2000000 := by omega
    have hi := small_pages l (by omega)
    have hm : (l.map convP).length ≤ 2000000 := by rw [List.length_map]; exact hl
    have hsm : ∀ x ∈ l.map convP, Sm x := fun x hx => by
      obtain ⟨y, hy, rfl⟩ := List.mem_map.1 hx
      exact hi y hy
    obtain ⟨⟨x, y, z⟩, hS, hI⟩ := checkKey_two a key _ hm hsm
    refine ev_bind hz (ev_neg (by omega) (ev_bind (toPages l hl hi) (ev_bind hS (ev_bind (toPages l hl hi) (ev_bind hI ?_)))))
    refine ev_pos rfl (ev_neg (by simp) ?_)
    refine Ev.step (f := fun k => _) (fun k => by simp only [laws_FnExactCheckKey.j0]; rfl) ?_
    exact ev_neg (by simp) (ev_bind (toPages l hl hi) (ev_bind (eqPages _ hm hsm) (ev_pos rfl (Ev.now _))))
  · rw [left_no ht] at hz
    exact ev_bind hz (ev_pos (by omega) (Ev.now _))
end Go.Proofs.Ytfajabboibcgpaa.Pure
end
section
namespace Go.Proofs.Ytfajabboibcgpaa.RO
open Go.RowKit Go.Proofs.YtfajabboibcgpaaW.PrintWords Go.ChangeShapes Go.WideShapes
set_option linter.unusedVariables false
def Opn (P : Program) (W : World) (e : TypeId) {α : Type} (d : Kd α) (G : α → Prop) : Prop :=
  ∀ {H : Type} {enc : TypeId × Value → H} {base : Nat} {spare : Nat → Bool} {held : Bool} {n : Nat} {cs : List Value} {x : DataW H × List MemPlace},
    DataW.trod enc P W base spare held n e cs = some x → ∃ y : α, d.K W y cs ∧ G y
section
variable {P : Program} {W : World} {e t : TypeId}
theorem op_string (he : P.underlying e = some .string) : Opn P W e Kd.string (fun s => s.size ≤ maxLen) := by
  intro H enc base spare held n cs x h
  obtain ⟨s, rfl, _, hs⟩ := DataW.trod_string he h
  exact ⟨s, rfl, hs⟩
theorem op_int {k : IntKind} (he : P.underlying e = some (.int k)) : Opn P W e (Kd.int k) (fun n => (Lit.int k n).wf = true) := by
  intro H enc base spare held n cs x h
  obtain ⟨m, rfl, _, hs⟩ := DataW.trod_int he h
  exact ⟨m, rfl, hs⟩
theorem pick {α : Type} {p : Nat → α → Prop} : ∀ (n : Nat), (∀ i, i < n → ∃ y, p i y) → ∃ ys : List α, ys.length = n ∧ ∀ i y, ys[i]? = some y → p i y := by
  intro n
  induction n with
  | zero => intro _; exact ⟨[], rfl, fun i y h => by simp at h⟩
  | succ n ih =>
    intro h
    obtain ⟨ys, hl, hp⟩ := ih (fun i hi => h i (by omega))
    obtain ⟨y, hy⟩ := h n (by omega)
    refine ⟨ys ++ [y], by simp [hl], fun i z hz => ?_⟩
    by_cases hi : i < n
    · rw [List.getElem?_append_left (by omega)] at hz
      exact hp i z hz
    · rw [List.getElem?_append_right (by omega)] at hz
      have : i = n := by
        rcases Nat.lt_or_ge (i - ys.length) 1 with h1 | h1
        · omega
        · rw [List.getElem?_eq_none (by simpa using h1)] at hz; cases hz
      subst this
      rw [hl, Nat.sub_self] at hz
      simp at hz
      subst hz
      exact hy
theorem op_slice {α : Type} {d : Kd α} {G : α → Prop} (ht : P.underlying t = some (.slice e)) (hc : P.cellsOf e = d.sz) (ho : Opn P W e d G) : Opn P W t (Kd.slice e d) (fun l => l.length ≤ maxLen ∧ ∀ x ∈ l, G x) := by
  intro H enc base spare held n cs x h
  rcases Deep.open_slice ht h with ⟨rfl, _⟩ | ⟨a, len, cap, m, n', D, Pl, rfl, _, hl, hm, hmm, _, hx⟩
  · exact ⟨[], ⟨none, 0, rfl, Nat.le_refl _, Kd.C_nil _ _⟩, by simp [maxLen], fun x hx => by cases hx⟩
  · obtain ⟨ys, hyl, hy⟩ := pick (p := fun i y => ∃ c, c.length = d.sz ∧ d.K W y c ∧ G y ∧ ∀ j u, c[j]? = some u → W.cell? (a.add (i * d.sz + j)) = some u) len (fun i hi => by
      have him : i < m := by rw [hmm]; split <;> omega
      obtain ⟨c, h1, h2⟩ := hx i him
      obtain ⟨y, hk, hg⟩ := ho h2
      obtain ⟨_, hcl, hcell⟩ := World.cells?_some h1
      rw [hc] at hcl hcell
      refine ⟨y, c, hcl, hk, hg, fun j u hj => ?_⟩
      have hj' : j < d.sz := by rw [← hcl]; exact (List.getElem?_eq_some_iff.1 hj).1
      have := hcell j hj'
      rw [hj] at this
      rw [← this]
      congr 1
      have e0 : ∀ p q : Nat, (a.add p).add q = a.add (p + q) := by
        intro p q
        obtain ⟨b, o, s⟩ := a
        unfold Addr.add
        by_cases hp : p = 0
        · subst hp; simp
        · by_cases hq : q = 0
          · subst hq; simp [hp]
          · simp [hp, hq]; omega
      rw [e0])
    refine ⟨ys, ⟨some a, cap, by rw [hyl], by omega, rfl, by rw [hyl]; unfold maxLen at hm; omega, fun h0 => ⟨a, rfl, fun j p hj => ?_⟩⟩, by rw [hyl]; omega, fun x hx => ?_⟩
    · obtain ⟨c, h1, h2, _, h3⟩ := hy j p hj
      exact ⟨c, h1, h2, h3⟩
    · obtain ⟨i, hi⟩ := List.getElem?_of_mem hx
      obtain ⟨c, _, _, h, _⟩ := hy i x hi
      exact h
def OpAt (P : Program) (W : World) (fs : List (TypeId × Nat)) (off : Nat) {α : Type} (d : Kd α) (G : α → Prop) : Prop :=
  ∀ {H : Type} {enc : TypeId × Value → H} {base : Nat} {spare : Nat → Bool} {held : Bool} {n : Nat} {cs : List Value}, cs.length = off + d.sz →
    (∀ f ∈ fs, ∃ x, DataW.trod enc P W base spare held n f.1 ((cs.drop f.2).take (P.cellsOf f.1)) = some x) → ∃ y : α, d.K W y (cs.drop off) ∧ G y
theorem opAt_one {off : Nat} {α : Type} {d : Kd α} {G : α → Prop} (hc : P.cellsOf e = d.sz) (h : Opn P W e d G) : OpAt P W [(e, off)] off d G := by
  intro H enc base spare held n cs hl hf
  obtain ⟨x, hx⟩ := hf (e, off) (List.mem_singleton.2 rfl)
  dsimp only at hx
  rw [hc, List.take_of_length_le (by rw [List.length_drop]; omega)] at hx
  exact h hx
theorem opAt_cons {off : Nat} {fs : List (TypeId × Nat)} {α β : Type} {d1 : Kd α} {d2 : Kd β} {G1 : α → Prop} {G2 : β → Prop} (hc : P.cellsOf e = d1.sz) (h1 : Opn P W e d1 G1) (h2 : OpAt P W fs (off + d1.sz) d2 G2) :
    OpAt P W ((e, off) :: fs) off (Kd.pair d1 d2) (fun y => G1 y.1 ∧ G2 y.2) := by
  intro H enc base spare held n cs hl hf
  have hl' : cs.length = off + (d1.sz + d2.sz) := hl
  obtain ⟨x, hx⟩ := hf (e, off) List.mem_cons_self
  dsimp only at hx
  rw [hc] at hx
  obtain ⟨y1, hk1, hg1⟩ := h1 hx
  obtain ⟨y2, hk2, hg2⟩ := h2 (cs := cs) (by omega) (fun f hf' => hf f (List.mem_cons_of_mem _ hf'))
  refine ⟨(y1, y2), ⟨(cs.drop off).take d1.sz, cs.drop (off + d1.sz), ?_, hk1, hk2⟩, hg1, hg2⟩
  rw [← List.drop_drop, List.take_append_drop]
theorem op_struct {fs : Array Field} {L : List (TypeId × Nat)} {α β : Type} {d : Kd α} {f : β → α} {g : α → β} {G : α → Prop} (ht : P.underlying t = some (.struct fs)) (hL : fs.toList.map (fun f => (f.type, f.offset)) = L) (hc : P.cellsOf t = d.sz) (hfg : ∀ y, f (g y) = y)
    (h : OpAt P W L 0 d G) : Opn P W t (Kd.iso d f) (fun x => G (f x)) := by
  intro H enc base spare held n cs x hx
  obtain ⟨xs, m, _, _, hl, hxl, hf⟩ := DataW.trod_struct ht hx
  obtain ⟨y, hk, hg⟩ := h (cs := cs) (n := m) (enc := enc) (base := base) (spare := spare) (held := held) (by rw [hl, hc]; omega) (fun q hq => by
    rw [← hL] at hq
    obtain ⟨fd, hfd, rfl⟩ := List.mem_map.1 hq
    obtain ⟨i, hi⟩ := List.getElem?_of_mem hfd
    rw [Array.getElem?_toList] at hi
    have hlt : i < xs.length := by
      have := (Array.getElem?_eq_some_iff.1 hi).1
      omega
    exact ⟨xs[i], by rw [hf i fd hi]; exact List.getElem?_eq_getElem hlt⟩)
  rw [List.drop_zero] at hk
  refine ⟨g y, ?_, ?_⟩
  · show d.K W (f (g y)) cs
    rw [hfg]; exact hk
  · show G (f (g y))
    rw [hfg]; exact hg
end
end Go.Proofs.Ytfajabboibcgpaa.RO
end
