/- For the law FnExactPutSlot: what it needs of the words, of the printed functions and of the plain laws, in few texts (laid by merge.py of this workplace). -/
import Derived.Test.YtfajabboibcgpaaMFnExactPutSlotd
import Derived.Laws.BitsLemmas
import Derived.Deep.Slices
import Derived.ChangeArms
import Derived.DataReads
section
namespace Go.Proofs.Ytfajabboibcgpaa.PR
open Go.RowKit Go.Proofs.YtfajabboibcgpaaW.PrintWords Go.Proofs.YtfajabboibcgpaaW.PrintLast Go.Proofs.YtfajabboibcgpaaW.PrintMore
attribute [local go_sem] max2_int min2_int max_two min_two max_three min_three max_four min_four   -- for this text's walks alone
set_option linter.unusedVariables false
set_option linter.unusedSimpArgs false
mutual
def laws_FnExactPutSlot.j0 : Nat → List (S113) → ByteArray → ByteArray → ByteArray → List (S72) → Bool → List (S72) → List (S72) → Bool → Bool → Option (Bool)
 | 0, _, _, _, _, _, _, _, _, _, _ => none
 | k + 1, x0, x1, x2, x3, x10, x11, x12, x13, x14, x61 => if x61 = true then (some false) else ((laws_toSlotS.f k x0).bind fun t325 => ((laws_eqSlotS.f k x12 t325).bind fun t328 => (if t328 = true then ((laws_markSlotS.f k x12 1).bind fun bt329 => (if bt329.1 < 0 then (laws_FnExactPutSlot.j1 k x0 x1 x2 x3 x10 x11 x13 true) else ((laws_eqSlotS.f k x13 x10).bind fun t331 => (if t331 = true then (laws_FnExactPutSlot.j1 k x0 x1 x2 x3 x10 x11 x13 (x14 != x11)) else (laws_FnExactPutSlot.j1 k x0 x1 x2 x3 x10 x11 x13 true))))) else (some false))))
def laws_FnExactPutSlot.j1 : Nat → List (S113) → ByteArray → ByteArray → ByteArray → List (S72) → Bool → List (S72) → Bool → Option (Bool)
 | 0, _, _, _, _, _, _, _, _ => none
 | k + 1, x0, x1, x2, x3, x10, x11, x13, x82 => if x82 = true then (some false) else ((laws_markSlotS.f k x13 1).bind fun bt332 => ((laws_heldSlotS.f k bt332.2 1).bind fun t334 => (if t334 < 0 then (some false) else (if t334 = bt332.1 then ((laws_toSlotS.f k x0).bind fun t335 => ((impl_PutSlot.f k t335 x1 x2 x3).bind fun bt338 => ((laws_eqSlotS.f k bt338.1 x10).bind fun t342 => (if t342 = true then (laws_FnExactPutSlot.j2 k bt332.2 bt332.1 (bt338.2 != x11)) else (laws_FnExactPutSlot.j2 k bt332.2 bt332.1 true))))) else (some false)))))
def laws_FnExactPutSlot.j2 : Nat → List (S72) → Int → Bool → Option (Bool)
 | 0, _, _, _ => none
 | k + 1, x13, x16, x111 => if x111 = true then (some false) else ((laws_heldSlotS.f k x13 1).bind fun t343 => (if t343 < 0 then (some false) else (if t343 = x16 then (some true) else (some false))))
end
def laws_FnExactPutSlot.f (k : Nat) (l0 : List (S113)) (a1 : ByteArray) (a2 : ByteArray) (a3 : ByteArray) : Option (Bool) := if (a1.size : Int) > 1048576 then (some true) else (if (a2.size : Int) > 1048576 then (some true) else (if (a3.size : Int) > 1048576 then (some true) else ((laws_szSlotS.f k l0 1048576).bind fun t309 => (if t309 < 0 then (some true) else ((laws_toSlotS.f k l0).bind fun t310 => ((spec_PutSlot.f k t310 a1 a2 a3).bind fun bt313 => ((laws_toSlotS.f k l0).bind fun t317 => ((impl_PutSlot.f k t317 a1 a2 a3).bind fun bt320 => ((laws_eqSlotS.f k bt320.1 bt313.1).bind fun t324 => (if t324 = true then (laws_FnExactPutSlot.j0 k l0 a1 a2 a3 bt313.1 bt313.2 t317 bt320.1 bt320.2 (bt320.2 != bt313.2)) else (laws_FnExactPutSlot.j0 k l0 a1 a2 a3 bt313.1 bt313.2 t317 bt320.1 bt320.2 true)))))))))))
set_option maxHeartbeats 8000000 in
set_option maxRecDepth 100000 in
theorem laws_FnExactPutSlot.calls (k : Nat) (A0 : Option Addr) (c0 : Nat) (l0 : List (S113)) (a1 : ByteArray) (a2 : ByteArray) (a3 : ByteArray) (r : Bool) (w : World) (hr0 : Kd.C k113 w A0 l0.length l0) (hc0 : l0.length ≤ c0) (h : laws_FnExactPutSlot.f k l0 a1 a2 a3 = some r) :
  Calls Try.prog 10 #[.slice A0 l0.length c0, .string a1, .string a2, .string a3] w fun e w' => e = .returned (.bool r) ∧ Below w.heap.size w w' := by
 have HR0 := Aside0.mk hr0
 have HC0 := Aside0.mk hc0
 clear hr0 hc0
 have HB := Aside0.mk (Below.refl w.heap.size w)
 have H : (if (a1.size : Int) > 1048576 then (some true) else (if (a2.size : Int) > 1048576 then (some true) else (if (a3.size : Int) > 1048576 then (some true) else ((laws_szSlotS.f k l0 1048576).bind fun t309 => (if t309 < 0 then (some true) else ((laws_toSlotS.f k l0).bind fun t310 => ((spec_PutSlot.f k t310 a1 a2 a3).bind fun bt313 => ((laws_toSlotS.f k l0).bind fun t317 => ((impl_PutSlot.f k t317 a1 a2 a3).bind fun bt320 => ((laws_eqSlotS.f k bt320.1 bt313.1).bind fun t324 => (if t324 = true then (laws_FnExactPutSlot.j0 k l0 a1 a2 a3 bt313.1 bt313.2 t317 bt320.1 bt320.2 (bt320.2 != bt313.2)) else (laws_FnExactPutSlot.j0 k l0 a1 a2 a3 bt313.1 bt313.2 t317 bt320.1 bt320.2 true)))))))))))) = some r := h
 clear h
 by_cases c5 : (a1.size : Int) > 1048576
 ·rw [if_pos c5] at H
  have c5b0 : decide (1048576 < (a1.size : Int)) = true := decide_eq_true c5
  have c5b1 : decide (1048576 < a1.size) = true := decide_eq_true (by omega)
  clear c5
  obtain rfl := Option.some.inj H
  go_enter Try.func10, Try.ntmps10
  go_wp2
  go_ret
  exact ⟨by first | rfl | (simp [errW_none, errW_some] <;> rfl) | (simp [*, errW_none, errW_some] <;> rfl), by repeat (first | (with_reducible first | exact HB.out | apply below_alloc | apply pw_below_drewN | apply below_drew1) | exact HB.out)⟩
 ·rw [if_neg c5] at H
  have c5b0 : decide (1048576 < (a1.size : Int)) = false := decide_eq_false c5
  have c5b1 : decide (1048576 < a1.size) = false := decide_eq_false (by omega)
  clear c5
  by_cases c6 : (a2.size : Int) > 1048576
  ·rw [if_pos c6] at H
   have c6b0 : decide (1048576 < (a2.size : Int)) = true := decide_eq_true c6
   have c6b1 : decide (1048576 < a2.size) = true := decide_eq_true (by omega)
   clear c6
   obtain rfl := Option.some.inj H
   go_enter Try.func10, Try.ntmps10
   go_wp2
   go_ret
   exact ⟨by first | rfl | (simp [errW_none, errW_some] <;> rfl) | (simp [*, errW_none, errW_some] <;> rfl), by repeat (first | (with_reducible first | exact HB.out | apply below_alloc | apply pw_below_drewN | apply below_drew1) | exact HB.out)⟩
  ·rw [if_neg c6] at H
   have c6b0 : decide (1048576 < (a2.size : Int)) = false := decide_eq_false c6
   have c6b1 : decide (1048576 < a2.size) = false := decide_eq_false (by omega)
   clear c6
   by_cases c7 : (a3.size : Int) > 1048576
   ·rw [if_pos c7] at H
    have c7b0 : decide (1048576 < (a3.size : Int)) = true := decide_eq_true c7
    have c7b1 : decide (1048576 < a3.size) = true := decide_eq_true (by omega)
    clear c7
    obtain rfl := Option.some.inj H
    go_enter Try.func10, Try.ntmps10
    go_wp2
    go_ret
    exact ⟨by first | rfl | (simp [errW_none, errW_some] <;> rfl) | (simp [*, errW_none, errW_some] <;> rfl), by repeat (first | (with_reducible first | exact HB.out | apply below_alloc | apply pw_below_drewN | apply below_drew1) | exact HB.out)⟩
   ·rw [if_neg c7] at H
    have c7b0 : decide (1048576 < (a3.size : Int)) = false := decide_eq_false c7
    have c7b1 : decide (1048576 < a3.size) = false := decide_eq_false (by omega)
    clear c7
    replace H := Option.bind_eq_some_iff.mp H
    obtain ⟨t309, A80, H⟩ := H
    replace H : (if t309 < 0 then (some true) else ((laws_toSlotS.f k l0).bind fun t310 => ((spec_PutSlot.f k t310 a1 a2 a3).bind fun bt313 => ((laws_toSlotS.f k l0).bind fun t317 => ((impl_PutSlot.f k t317 a1 a2 a3).bind fun bt320 => ((laws_eqSlotS.f k bt320.1 bt313.1).bind fun t324 => (if t324 = true then (laws_FnExactPutSlot.j0 k l0 a1 a2 a3 bt313.1 bt313.2 t317 bt320.1 bt320.2 (bt320.2 != bt313.2)) else (laws_FnExactPutSlot.j0 k l0 a1 a2 a3 bt313.1 bt313.2 t317 bt320.1 bt320.2 true)))))))) = some r := H
    have A8 := Aside0.mk A80
    clear A80
    by_cases c9 : t309 < 0
    ·rw [if_pos c9] at H
     have c9b0 : decide (t309 < 0) = true := decide_eq_true c9
     clear c9
     obtain rfl := Option.some.inj H
     go_enter Try.func10, Try.ntmps10
     go_wp2_with (first | ((with_reducible refine gate_callee (f := 15) rfl ?_); refine goesL_ (some 31) rfl rfl Try.func15 (by kernel_rfl) rfl #[.slice A0 l0.length c0, .int .i64 1048576] rfl (by (try simp only [List.map_toArray, List.map_cons, List.map_nil]); first | done | rfl | (simp only [List.length_drop, List.length_take]; rfl)) ?_; (with_reducible refine (laws_szSlotS.calls k _ _ l0 1048576 t309 _ ?side1 ?side2 A8.out).mono ?_); (case side1 => repeat (first | exact HR0.out | (with_reducible refine Kd.C_alloc ?_ _) | (with_reducible refine Kd.C_drewN ?_ _) | (with_reducible refine Kd.C_drew ?_))); (case side2 => exact HC0.out); rintro e w10 ⟨rfl, hb⟩; refine ⟨_, rfl, ?_⟩; have n0_ := Aside0.mk (below_step (by repeat (first | (with_reducible first | exact HB.out | apply below_alloc | apply pw_below_drewN | apply below_drew1) | exact HB.out)) hb); clear HB; have HB := n0_; clear n0_; (try clear hb); (try clear hb2); (try clear hk); (try clear hi)))
     go_ret
     exact ⟨by first | rfl | (simp [errW_none, errW_some] <;> rfl) | (simp [*, errW_none, errW_some] <;> rfl), by repeat (first | (with_reducible first | exact HB.out | apply below_alloc | apply pw_below_drewN | apply below_drew1) | exact HB.out)⟩
    ·rw [if_neg c9] at H
     have c9b0 : decide (t309 < 0) = false := decide_eq_false c9
     clear c9
     replace H := Option.bind_eq_some_iff.mp H
     obtain ⟨t310, A110, H⟩ := H
     replace H : ((spec_PutSlot.f k t310 a1 a2 a3).bind fun bt313 => ((laws_toSlotS.f k l0).bind fun t317 => ((impl_PutSlot.f k t317 a1 a2 a3).bind fun bt320 => ((laws_eqSlotS.f k bt320.1 bt313.1).bind fun t324 => (if t324 = true then (laws_FnExactPutSlot.j0 k l0 a1 a2 a3 bt313.1 bt313.2 t317 bt320.1 bt320.2 (bt320.2 != bt313.2)) else (laws_FnExactPutSlot.j0 k l0 a1 a2 a3 bt313.1 bt313.2 t317 bt320.1 bt320.2 true)))))) = some r := H
     have A11 := Aside0.mk A110
     clear A110
     replace H := Option.bind_eq_some_iff.mp H
     obtain ⟨⟨t313, t314⟩, A120, H⟩ := H
     replace H : ((laws_toSlotS.f k l0).bind fun t317 => ((impl_PutSlot.f k t317 a1 a2 a3).bind fun bt320 => ((laws_eqSlotS.f k bt320.1 t313).bind fun t324 => (if t324 = true then (laws_FnExactPutSlot.j0 k l0 a1 a2 a3 t313 t314 t317 bt320.1 bt320.2 (bt320.2 != t314)) else (laws_FnExactPutSlot.j0 k l0 a1 a2 a3 t313 t314 t317 bt320.1 bt320.2 true))))) = some r := H
     have A12 := Aside0.mk A120
     clear A120
     replace H := Option.bind_eq_some_iff.mp H
     obtain ⟨t317, A130, H⟩ := H
     replace H : ((impl_PutSlot.f k t317 a1 a2 a3).bind fun bt320 => ((laws_eqSlotS.f k bt320.1 t313).bind fun t324 => (if t324 = true then (laws_FnExactPutSlot.j0 k l0 a1 a2 a3 t313 t314 t317 bt320.1 bt320.2 (bt320.2 != t314)) else (laws_FnExactPutSlot.j0 k l0 a1 a2 a3 t313 t314 t317 bt320.1 bt320.2 true)))) = some r := H
     have A13 := Aside0.mk A130
     clear A130
     replace H := Option.bind_eq_some_iff.mp H
     obtain ⟨⟨t320, t321⟩, A140, H⟩ := H
     replace H : ((laws_eqSlotS.f k t320 t313).bind fun t324 => (if t324 = true then (laws_FnExactPutSlot.j0 k l0 a1 a2 a3 t313 t314 t317 t320 t321 (t321 != t314)) else (laws_FnExactPutSlot.j0 k l0 a1 a2 a3 t313 t314 t317 t320 t321 true))) = some r := H
     have A14 := Aside0.mk A140
     clear A140
     have HC15 := Aside0.mk H
     clear H
     go_enter Try.func10, Try.ntmps10
     go_upto_region 14 with (first | ((with_reducible refine gate_callee (f := 15) rfl ?_); refine goesL_ (some 31) rfl rfl Try.func15 (by kernel_rfl) rfl #[.slice A0 l0.length c0, .int .i64 1048576] rfl (by (try simp only [List.map_toArray, List.map_cons, List.map_nil]); first | done | rfl | (simp only [List.length_drop, List.length_take]; rfl)) ?_; (with_reducible refine (laws_szSlotS.calls k _ _ l0 1048576 t309 _ ?side1 ?side2 A8.out).mono ?_); (case side1 => repeat (first | exact HR0.out | (with_reducible refine Kd.C_alloc ?_ _) | (with_reducible refine Kd.C_drewN ?_ _) | (with_reducible refine Kd.C_drew ?_))); (case side2 => exact HC0.out); rintro e w16 ⟨rfl, hb⟩; refine ⟨_, rfl, ?_⟩; have n0_ := Aside0.mk (below_step (by repeat (first | (with_reducible first | exact HB.out | apply below_alloc | apply pw_below_drewN | apply below_drew1) | exact HB.out)) hb); clear HB; have HB := n0_; clear n0_; (try clear hb); (try clear hb2); (try clear hk); (try clear hi)) | ((with_reducible refine gate_callee (f := 17) rfl ?_); refine goesL_ (some 36) rfl rfl Try.func17 (by kernel_rfl) rfl #[.slice A0 l0.length c0] rfl (by (try simp only [List.map_toArray, List.map_cons, List.map_nil]); first | done | rfl | (simp only [List.length_drop, List.length_take]; rfl)) ?_; (with_reducible refine (laws_toSlotS.calls k _ _ l0 t310 _ ?side1 ?side2 A11.out).mono ?_); (case side1 => repeat (first | exact (Kd.C_below HR0.out HB.out) | (with_reducible refine Kd.C_alloc ?_ _) | (with_reducible refine Kd.C_drewN ?_ _) | (with_reducible refine Kd.C_drew ?_))); (case side2 => exact HC0.out); rintro e w17 ⟨v311, rfl, ho0, hb⟩; refine ⟨_, rfl, ?_⟩; have n0_ := Aside0.mk (Kd.R_lower ho0 (below_size (by repeat (first | (with_reducible first | exact HB.out | apply below_alloc | apply pw_below_drewN | apply below_drew1) | exact HB.out)))); have n1_ := Aside0.mk (below_step (by repeat (first | (with_reducible first | exact HB.out | apply below_alloc | apply pw_below_drewN | apply below_drew1) | exact HB.out)) hb); clear HB; have HO312 := n0_; have HB := n1_; clear n0_ n1_; (try clear hb); (try clear hb2); (try clear hk); (try clear hi); (try clear ho0); obtain ⟨Ao18, co18, eo18⟩ := Kd.R_slice HO312.out; subst eo18) | ((with_reducible refine gate_callee (f := 61) rfl ?_); refine goesL_ (some 40) rfl rfl Try.func61 (by kernel_rfl) rfl #[.slice Ao18 t310.length co18, .string a1, .string a2, .string a3] rfl (by (try simp only [List.map_toArray, List.map_cons, List.map_nil]); first | done | rfl | (simp only [List.length_drop, List.length_take]; rfl)) ?_; (with_reducible refine (spec_PutSlot.calls k _ _ t310 a1 a2 a3 t313 t314 _ ?side1 ?side2 A12.out).mono ?_); (case side1 => repeat (first | exact (Kd.R_reads' HO312.out).2.2 | (with_reducible refine Kd.C_alloc ?_ _) | (with_reducible refine Kd.C_drewN ?_ _) | (with_reducible refine Kd.C_drew ?_))); (case side2 => exact (Kd.R_reads' HO312.out).2.1); rintro e w19 ⟨v315, rfl, ho0, hb⟩; refine ⟨_, rfl, ?_⟩; have n0_ := Aside0.mk (Kd.R_elder' (by (with_reducible repeat (first | apply Kd.R_alloc | apply Kd.R_drewN | apply Kd.R_drew)); exact HO312.out) (Kd.R_base ho0) hb); have n1_ := Aside0.mk (Kd.R_lower (Kd.R_new' ho0 (Kd.R_lt (by (with_reducible repeat (first | apply Kd.R_alloc | apply Kd.R_drewN | apply Kd.R_drew)); exact HO312.out))) (below_size (by repeat (first | (with_reducible first | exact HB.out | apply below_alloc | apply pw_below_drewN | apply below_drew1) | exact HB.out)))); have n2_ := Aside0.mk (below_step (by repeat (first | (with_reducible first | exact HB.out | apply below_alloc | apply pw_below_drewN | apply below_drew1) | exact HB.out)) hb); clear HO312; clear HB; have HO312 := n0_; have HO316 := n1_; have HB := n2_; clear n0_ n1_ n2_; (try clear hb); (try clear hb2); (try clear hk); (try clear hi); (try clear ho0)) | ((with_reducible refine gate_callee (f := 17) rfl ?_); refine goesL_ (some 44) rfl rfl Try.func17 (by kernel_rfl) rfl #[.slice A0 l0.length c0] rfl (by (try simp only [List.map_toArray, List.map_cons, List.map_nil]); first | done | rfl | (simp only [List.length_drop, List.length_take]; rfl)) ?_; (with_reducible refine (laws_toSlotS.calls k _ _ l0 t317 _ ?side1 ?side2 A13.out).mono ?_); (case side1 => repeat (first | exact (Kd.C_below HR0.out HB.out) | (with_reducible refine Kd.C_alloc ?_ _) | (with_reducible refine Kd.C_drewN ?_ _) | (with_reducible refine Kd.C_drew ?_))); (case side2 => exact HC0.out); rintro e w20 ⟨v318, rfl, ho0, hb⟩; refine ⟨_, rfl, ?_⟩; have n0_ := Aside0.mk (Kd.R_elder' (by (with_reducible repeat (first | apply Kd.R_alloc | apply Kd.R_drewN | apply Kd.R_drew)); exact HO312.out) (Kd.R_base ho0) hb); have n1_ := Aside0.mk (Kd.R_elder' (by (with_reducible repeat (first | apply Kd.R_alloc | apply Kd.R_drewN | apply Kd.R_drew)); exact HO316.out) (Kd.R_base ho0) hb); have n2_ := Aside0.mk (Kd.R_lower (Kd.R_new' (Kd.R_new' ho0 (Kd.R_lt (by (with_reducible repeat (first | apply Kd.R_alloc | apply Kd.R_drewN | apply Kd.R_drew)); exact HO312.out))) (Kd.R_lt (by (with_reducible repeat (first | apply Kd.R_alloc | apply Kd.R_drewN | apply Kd.R_drew)); exact HO316.out))) (below_size (by repeat (first | (with_reducible first | exact HB.out | apply below_alloc | apply pw_below_drewN | apply below_drew1) | exact HB.out)))); have n3_ := Aside0.mk (below_step (by repeat (first | (with_reducible first | exact HB.out | apply below_alloc | apply pw_below_drewN | apply below_drew1) | exact HB.out)) hb); clear HO312; clear HO316; clear HB; have HO312 := n0_; have HO316 := n1_; have HO319 := n2_; have HB := n3_; clear n0_ n1_ n2_ n3_; (try clear hb); (try clear hb2); (try clear hk); (try clear hi); (try clear ho0); obtain ⟨Ao21, co21, eo21⟩ := Kd.R_slice HO319.out; subst eo21) | ((with_reducible refine gate_callee (f := 62) rfl ?_); refine goesL_ (some 50) rfl rfl Try.func62 (by kernel_rfl) rfl #[.slice Ao21 t317.length co21, .string a1, .string a2, .string a3] rfl (by (try simp only [List.map_toArray, List.map_cons, List.map_nil]); first | done | rfl | (simp only [List.length_drop, List.length_take]; rfl)) ?_; (with_reducible refine (impl_PutSlot.calls k _ _ t317 a1 a2 a3 t320 t321 _ ?side1 ?side2 A14.out).mono ?_); (case side1 => repeat (first | exact (Kd.R_reads' HO319.out).2.2 | (with_reducible refine Kd.C_alloc ?_ _) | (with_reducible refine Kd.C_drewN ?_ _) | (with_reducible refine Kd.C_drew ?_))); (case side2 => exact (Kd.R_reads' HO319.out).2.1); rintro e w22 ⟨v322, rfl, ho0, hb⟩; refine ⟨_, rfl, ?_⟩; have n0_ := Aside0.mk (Kd.R_elder' (by (with_reducible repeat (first | apply Kd.R_alloc | apply Kd.R_drewN | apply Kd.R_drew)); exact HO312.out) (Kd.R_base ho0) hb); have n1_ := Aside0.mk (Kd.R_elder' (by (with_reducible repeat (first | apply Kd.R_alloc | apply Kd.R_drewN | apply Kd.R_drew)); exact HO316.out) (Kd.R_base ho0) hb); have n2_ := Aside0.mk (Kd.R_elder' (by (with_reducible repeat (first | apply Kd.R_alloc | apply Kd.R_drewN | apply Kd.R_drew)); exact HO319.out) (Kd.R_base ho0) hb); have n3_ := Aside0.mk (Kd.R_lower (Kd.R_new' (Kd.R_new' (Kd.R_new' ho0 (Kd.R_lt (by (with_reducible repeat (first | apply Kd.R_alloc | apply Kd.R_drewN | apply Kd.R_drew)); exact HO312.out))) (Kd.R_lt (by (with_reducible repeat (first | apply Kd.R_alloc | apply Kd.R_drewN | apply Kd.R_drew)); exact HO316.out))) (Kd.R_lt (by (with_reducible repeat (first | apply Kd.R_alloc | apply Kd.R_drewN | apply Kd.R_drew)); exact HO319.out))) (below_size (by repeat (first | (with_reducible first | exact HB.out | apply below_alloc | apply pw_below_drewN | apply below_drew1) | exact HB.out)))); have n4_ := Aside0.mk (below_step (by repeat (first | (with_reducible first | exact HB.out | apply below_alloc | apply pw_below_drewN | apply below_drew1) | exact HB.out)) hb); clear HO312; clear HO316; clear HO319; clear HB; have HO312 := n0_; have HO316 := n1_; have HO319 := n2_; have HO323 := n3_; have HB := n4_; clear n0_ n1_ n2_ n3_ n4_; (try clear hb); (try clear hb2); (try clear hk); (try clear hi); (try clear ho0)))
     (try simp only [Act.put, List.setIfInBounds_toArray, List.set_cons_zero, List.set_cons_succ])
     go_cut [61] (fun v61 wc => ∃ (kq : Nat) (x61_14 : Bool), v61 = .bool x61_14 ∧ Aside0 (laws_FnExactPutSlot.j0 kq l0 a1 a2 a3 t313 t314 t317 t320 t321 x61_14 = some r) ∧ Aside0 (kq ≤ k) ∧ Aside0 (Kd.R k72 72 wc w.heap.size (fun k_ => some k_ ≠ ((.slice Ao21 t317.length co21) : Value).ownBlock ∧ some k_ ≠ (v322 : Value).ownBlock) v315 t313) ∧ Aside0 (Kd.R k72 72 wc w.heap.size (fun k_ => some k_ ≠ (v315 : Value).ownBlock ∧ some k_ ≠ (v322 : Value).ownBlock) (.slice Ao21 t317.length co21) t317) ∧ Aside0 (Kd.R k72 72 wc w.heap.size (fun k_ => some k_ ≠ (v315 : Value).ownBlock ∧ some k_ ≠ ((.slice Ao21 t317.length co21) : Value).ownBlock) v322 t320) ∧ Aside0 (Below w.heap.size w wc))
     case first =>
      have H := HC15.out
      clear HC15
      replace H := Option.bind_eq_some_iff.mp H
      obtain ⟨t324, A230, H⟩ := H
      replace H : (if t324 = true then (laws_FnExactPutSlot.j0 k l0 a1 a2 a3 t313 t314 t317 t320 t321 (t321 != t314)) else (laws_FnExactPutSlot.j0 k l0 a1 a2 a3 t313 t314 t317 t320 t321 true)) = some r := H
      have A23 := Aside0.mk A230
      clear A230
      by_cases c24 : t324 = true
      ·subst c24
       have H1 : (laws_FnExactPutSlot.j0 k l0 a1 a2 a3 t313 t314 t317 t320 t321 (t321 != t314)) = some r := by rw [if_pos rfl] at H; exact H
       clear H
       have H := H1
       clear H1
       have H' := Aside0.mk H
       clear H
       obtain ⟨Ao25, co25, eo25⟩ := Kd.R_slice HO323.out
       subst eo25
       obtain ⟨Ao26, co26, eo26⟩ := Kd.R_slice HO316.out
       subst eo26
       go_wp2_with (first | ((with_reducible refine gate_callee (f := 19) rfl ?_); refine goesL_ (some 55) rfl rfl Try.func19 (by kernel_rfl) rfl #[.slice Ao25 t320.length co25, .slice Ao26 t313.length co26] rfl (by (try simp only [List.map_toArray, List.map_cons, List.map_nil]); first | done | rfl | (simp only [List.length_drop, List.length_take]; rfl)) ?_; (with_reducible refine (laws_eqSlotS.calls k _ _ t320 _ _ t313 true _ ?side1 ?side2 ?side3 ?side4 A23.out).mono ?_); (case side1 => repeat (first | exact (Kd.R_reads' HO323.out).2.2 | (with_reducible refine Kd.C_alloc ?_ _) | (with_reducible refine Kd.C_drewN ?_ _) | (with_reducible refine Kd.C_drew ?_))); (case side2 => exact (Kd.R_reads' HO323.out).2.1); (case side3 => repeat (first | exact (Kd.R_reads' HO316.out).2.2 | (with_reducible refine Kd.C_alloc ?_ _) | (with_reducible refine Kd.C_drewN ?_ _) | (with_reducible refine Kd.C_drew ?_))); (case side4 => exact (Kd.R_reads' HO316.out).2.1); rintro e w27 ⟨rfl, hb⟩; refine ⟨_, rfl, ?_⟩; have n0_ := Aside0.mk (Kd.R_below (by (with_reducible repeat (first | apply Kd.R_alloc | apply Kd.R_drewN | apply Kd.R_drew)); exact HO312.out) hb); have n1_ := Aside0.mk (Kd.R_below (by (with_reducible repeat (first | apply Kd.R_alloc | apply Kd.R_drewN | apply Kd.R_drew)); exact HO316.out) hb); have n2_ := Aside0.mk (Kd.R_below (by (with_reducible repeat (first | apply Kd.R_alloc | apply Kd.R_drewN | apply Kd.R_drew)); exact HO319.out) hb); have n3_ := Aside0.mk (Kd.R_below (by (with_reducible repeat (first | apply Kd.R_alloc | apply Kd.R_drewN | apply Kd.R_drew)); exact HO323.out) hb); have n4_ := Aside0.mk (below_step (by repeat (first | (with_reducible first | exact HB.out | apply below_alloc | apply pw_below_drewN | apply below_drew1) | exact HB.out)) hb); clear HO312; clear HO316; clear HO319; clear HO323; clear HB; have HO312 := n0_; have HO316 := n1_; have HO319 := n2_; have HO323 := n3_; have HB := n4_; clear n0_ n1_ n2_ n3_ n4_; (try clear hb); (try clear hb2); (try clear hk); (try clear hi)))
       go_meet
       case rel => exact ⟨_, ((t321 != t314)), (by first | rfl | (simp; done) | (simp [*]; done) | (simp [bne]; done)), H', ⟨by first | omega | exact Nat.le_refl _⟩, ⟨by (with_reducible repeat (first | apply Kd.R_alloc | apply Kd.R_drewN | apply Kd.R_drew)); exact Kd.R_mono HO316.out (fun _ hk => ⟨hk.1.2, hk.2⟩)⟩, ⟨by (with_reducible repeat (first | apply Kd.R_alloc | apply Kd.R_drewN | apply Kd.R_drew)); exact Kd.R_mono HO319.out (fun _ hk => ⟨hk.1.2, hk.2⟩)⟩, ⟨by (with_reducible repeat (first | apply Kd.R_alloc | apply Kd.R_drewN | apply Kd.R_drew)); exact Kd.R_mono HO323.out (fun _ hk => ⟨hk.1.2, hk.2⟩)⟩, ⟨by repeat (first | (with_reducible first | exact HB.out | apply below_alloc | apply pw_below_drewN | apply below_drew1) | exact HB.out)⟩⟩
      ·replace c24 := Bool.eq_false_iff.mpr c24
       subst c24
       have H1 : (laws_FnExactPutSlot.j0 k l0 a1 a2 a3 t313 t314 t317 t320 t321 true) = some r := by rw [if_neg (show ¬ (false = true) by decide)] at H; exact H
       clear H
       have H := H1
       clear H1
       have H' := Aside0.mk H
       clear H
       obtain ⟨Ao28, co28, eo28⟩ := Kd.R_slice HO323.out
       subst eo28
       obtain ⟨Ao29, co29, eo29⟩ := Kd.R_slice HO316.out
       subst eo29
       go_wp2_with (first | ((with_reducible refine gate_callee (f := 19) rfl ?_); refine goesL_ (some 55) rfl rfl Try.func19 (by kernel_rfl) rfl #[.slice Ao28 t320.length co28, .slice Ao29 t313.length co29] rfl (by (try simp only [List.map_toArray, List.map_cons, List.map_nil]); first | done | rfl | (simp only [List.length_drop, List.length_take]; rfl)) ?_; (with_reducible refine (laws_eqSlotS.calls k _ _ t320 _ _ t313 false _ ?side1 ?side2 ?side3 ?side4 A23.out).mono ?_); (case side1 => repeat (first | exact (Kd.R_reads' HO323.out).2.2 | (with_reducible refine Kd.C_alloc ?_ _) | (with_reducible refine Kd.C_drewN ?_ _) | (with_reducible refine Kd.C_drew ?_))); (case side2 => exact (Kd.R_reads' HO323.out).2.1); (case side3 => repeat (first | exact (Kd.R_reads' HO316.out).2.2 | (with_reducible refine Kd.C_alloc ?_ _) | (with_reducible refine Kd.C_drewN ?_ _) | (with_reducible refine Kd.C_drew ?_))); (case side4 => exact (Kd.R_reads' HO316.out).2.1); rintro e w30 ⟨rfl, hb⟩; refine ⟨_, rfl, ?_⟩; have n0_ := Aside0.mk (Kd.R_below (by (with_reducible repeat (first | apply Kd.R_alloc | apply Kd.R_drewN | apply Kd.R_drew)); exact HO312.out) hb); have n1_ := Aside0.mk (Kd.R_below (by (with_reducible repeat (first | apply Kd.R_alloc | apply Kd.R_drewN | apply Kd.R_drew)); exact HO316.out) hb); have n2_ := Aside0.mk (Kd.R_below (by (with_reducible repeat (first | apply Kd.R_alloc | apply Kd.R_drewN | apply Kd.R_drew)); exact HO319.out) hb); have n3_ := Aside0.mk (Kd.R_below (by (with_reducible repeat (first | apply Kd.R_alloc | apply Kd.R_drewN | apply Kd.R_drew)); exact HO323.out) hb); have n4_ := Aside0.mk (below_step (by repeat (first | (with_reducible first | exact HB.out | apply below_alloc | apply pw_below_drewN | apply below_drew1) | exact HB.out)) hb); clear HO312; clear HO316; clear HO319; clear HO323; clear HB; have HO312 := n0_; have HO316 := n1_; have HO319 := n2_; have HO323 := n3_; have HB := n4_; clear n0_ n1_ n2_ n3_ n4_; (try clear hb); (try clear hb2); (try clear hk); (try clear hi)))
       go_meet
       case rel => exact ⟨_, (true), (by first | rfl | (simp; done) | (simp [*]; done) | (simp [bne]; done)), H', ⟨by first | omega | exact Nat.le_refl _⟩, ⟨by (with_reducible repeat (first | apply Kd.R_alloc | apply Kd.R_drewN | apply Kd.R_drew)); exact Kd.R_mono HO316.out (fun _ hk => ⟨hk.1.2, hk.2⟩)⟩, ⟨by (with_reducible repeat (first | apply Kd.R_alloc | apply Kd.R_drewN | apply Kd.R_drew)); exact Kd.R_mono HO319.out (fun _ hk => ⟨hk.1.2, hk.2⟩)⟩, ⟨by (with_reducible repeat (first | apply Kd.R_alloc | apply Kd.R_drewN | apply Kd.R_drew)); exact Kd.R_mono HO323.out (fun _ hk => ⟨hk.1.2, hk.2⟩)⟩, ⟨by repeat (first | (with_reducible first | exact HB.out | apply below_alloc | apply pw_below_drewN | apply below_drew1) | exact HB.out)⟩⟩
     case rest =>
      clear HC15
      try clear c1
      try clear c2
      try clear p2
      try clear c5
      try clear c5b0
      try clear c5b1
      try clear c6
      try clear c6b0
      try clear c6b1
      try clear c7
      try clear c7b0
      try clear c7b1
      try clear c9
      try clear c9b0
      try clear c10
      try clear c15
      try clear c17
      try clear c19
      try clear c24
      obtain ⟨kq, x61_14, rfl, HA, HJ14, HO_10, HO_12, HO_13, HB⟩ := hcut
      cases kq with
      | zero => exact absurd HA.out (by simp [laws_FnExactPutSlot.j0])
      | succ kj14 =>
       have H := HA.out
       clear HA
       simp only [laws_FnExactPutSlot.j0] at H
       by_cases c31 : x61_14 = true
       ·subst c31
        have H1 : (some false) = some r := by rw [if_pos rfl] at H; exact H
        clear H
        have H := H1
        clear H1
        obtain rfl := Option.some.inj H
        go_wp2
        go_ret
        exact ⟨by first | rfl | (simp [errW_none, errW_some] <;> rfl) | (simp [*, errW_none, errW_some] <;> rfl), by repeat (first | (with_reducible first | exact HB.out | apply below_alloc | apply pw_below_drewN | apply below_drew1) | exact HB.out)⟩
       ·replace c31 := Bool.eq_false_iff.mpr c31
        subst c31
        have H1 : ((laws_toSlotS.f kj14 l0).bind fun t325 => ((laws_eqSlotS.f kj14 t317 t325).bind fun t328 => (if t328 = true then ((laws_markSlotS.f kj14 t317 1).bind fun bt329 => (if bt329.1 < 0 then (laws_FnExactPutSlot.j1 kj14 l0 a1 a2 a3 t313 t314 t320 true) else ((laws_eqSlotS.f kj14 t320 t313).bind fun t331 => (if t331 = true then (laws_FnExactPutSlot.j1 kj14 l0 a1 a2 a3 t313 t314 t320 (t321 != t314)) else (laws_FnExactPutSlot.j1 kj14 l0 a1 a2 a3 t313 t314 t320 true))))) else (some false)))) = some r := by rw [if_neg (show ¬ (false = true) by decide)] at H; exact H
        clear H
        have H := H1
        clear H1
        replace H := Option.bind_eq_some_iff.mp H
        obtain ⟨t325, A320, H⟩ := H
        replace H : ((laws_eqSlotS.f kj14 t317 t325).bind fun t328 => (if t328 = true then ((laws_markSlotS.f kj14 t317 1).bind fun bt329 => (if bt329.1 < 0 then (laws_FnExactPutSlot.j1 kj14 l0 a1 a2 a3 t313 t314 t320 true) else ((laws_eqSlotS.f kj14 t320 t313).bind fun t331 => (if t331 = true then (laws_FnExactPutSlot.j1 kj14 l0 a1 a2 a3 t313 t314 t320 (t321 != t314)) else (laws_FnExactPutSlot.j1 kj14 l0 a1 a2 a3 t313 t314 t320 true))))) else (some false))) = some r := H
        have A32 := Aside0.mk A320
        clear A320
        replace H := Option.bind_eq_some_iff.mp H
        obtain ⟨t328, A330, H⟩ := H
        replace H : (if t328 = true then ((laws_markSlotS.f kj14 t317 1).bind fun bt329 => (if bt329.1 < 0 then (laws_FnExactPutSlot.j1 kj14 l0 a1 a2 a3 t313 t314 t320 true) else ((laws_eqSlotS.f kj14 t320 t313).bind fun t331 => (if t331 = true then (laws_FnExactPutSlot.j1 kj14 l0 a1 a2 a3 t313 t314 t320 (t321 != t314)) else (laws_FnExactPutSlot.j1 kj14 l0 a1 a2 a3 t313 t314 t320 true))))) else (some false)) = some r := H
        have A33 := Aside0.mk A330
        clear A330
        by_cases c34 : t328 = true
        ·subst c34
         have H1 : ((laws_markSlotS.f kj14 t317 1).bind fun bt329 => (if bt329.1 < 0 then (laws_FnExactPutSlot.j1 kj14 l0 a1 a2 a3 t313 t314 t320 true) else ((laws_eqSlotS.f kj14 t320 t313).bind fun t331 => (if t331 = true then (laws_FnExactPutSlot.j1 kj14 l0 a1 a2 a3 t313 t314 t320 (t321 != t314)) else (laws_FnExactPutSlot.j1 kj14 l0 a1 a2 a3 t313 t314 t320 true))))) = some r := by rw [if_pos rfl] at H; exact H
         clear H
         have H := H1
         clear H1
         replace H := Option.bind_eq_some_iff.mp H
         obtain ⟨⟨t329, t330⟩, A350, H⟩ := H
         replace H : (if t329 < 0 then (laws_FnExactPutSlot.j1 kj14 l0 a1 a2 a3 t313 t314 t320 true) else ((laws_eqSlotS.f kj14 t320 t313).bind fun t331 => (if t331 = true then (laws_FnExactPutSlot.j1 kj14 l0 a1 a2 a3 t313 t314 t320 (t321 != t314)) else (laws_FnExactPutSlot.j1 kj14 l0 a1 a2 a3 t313 t314 t320 true)))) = some r := H
         have A35 := Aside0.mk A350
         clear A350
         have HC36 := Aside0.mk H
         clear H
         go_upto_region 20 with (first | ((with_reducible refine gate_callee (f := 17) rfl ?_); refine goesL_ (some 64) rfl rfl Try.func17 (by kernel_rfl) rfl #[.slice A0 l0.length c0] rfl (by (try simp only [List.map_toArray, List.map_cons, List.map_nil]); first | done | rfl | (simp only [List.length_drop, List.length_take]; rfl)) ?_; (with_reducible refine (laws_toSlotS.calls kj14 _ _ l0 t325 _ ?side1 ?side2 A32.out).mono ?_); (case side1 => repeat (first | exact (Kd.C_below HR0.out HB.out) | (with_reducible refine Kd.C_alloc ?_ _) | (with_reducible refine Kd.C_drewN ?_ _) | (with_reducible refine Kd.C_drew ?_))); (case side2 => exact HC0.out); rintro e w37 ⟨v326, rfl, ho0, hb⟩; refine ⟨_, rfl, ?_⟩; have n0_ := Aside0.mk (Kd.R_elder' (by (with_reducible repeat (first | apply Kd.R_alloc | apply Kd.R_drewN | apply Kd.R_drew)); exact HO_10.out) (Kd.R_base ho0) hb); have n1_ := Aside0.mk (Kd.R_elder' (by (with_reducible repeat (first | apply Kd.R_alloc | apply Kd.R_drewN | apply Kd.R_drew)); exact HO_12.out) (Kd.R_base ho0) hb); have n2_ := Aside0.mk (Kd.R_elder' (by (with_reducible repeat (first | apply Kd.R_alloc | apply Kd.R_drewN | apply Kd.R_drew)); exact HO_13.out) (Kd.R_base ho0) hb); have n3_ := Aside0.mk (Kd.R_lower (Kd.R_new' (Kd.R_new' (Kd.R_new' ho0 (Kd.R_lt (by (with_reducible repeat (first | apply Kd.R_alloc | apply Kd.R_drewN | apply Kd.R_drew)); exact HO_10.out))) (Kd.R_lt (by (with_reducible repeat (first | apply Kd.R_alloc | apply Kd.R_drewN | apply Kd.R_drew)); exact HO_12.out))) (Kd.R_lt (by (with_reducible repeat (first | apply Kd.R_alloc | apply Kd.R_drewN | apply Kd.R_drew)); exact HO_13.out))) (below_size (by repeat (first | (with_reducible first | exact HB.out | apply below_alloc | apply pw_below_drewN | apply below_drew1) | exact HB.out)))); have n4_ := Aside0.mk (below_step (by repeat (first | (with_reducible first | exact HB.out | apply below_alloc | apply pw_below_drewN | apply below_drew1) | exact HB.out)) hb); clear HO_10; clear HO_12; clear HO_13; clear HB; have HO_10 := n0_; have HO_12 := n1_; have HO_13 := n2_; have HO327 := n3_; have HB := n4_; clear n0_ n1_ n2_ n3_ n4_; (try clear hb); (try clear hb2); (try clear hk); (try clear hi); (try clear ho0); obtain ⟨Ao38, co38, eo38⟩ := Kd.R_slice HO327.out; subst eo38) | ((with_reducible refine gate_callee (f := 19) rfl ?_); refine goesL_ (some 65) rfl rfl Try.func19 (by kernel_rfl) rfl #[.slice Ao21 t317.length co21, .slice Ao38 t325.length co38] rfl (by (try simp only [List.map_toArray, List.map_cons, List.map_nil]); first | done | rfl | (simp only [List.length_drop, List.length_take]; rfl)) ?_; (with_reducible refine (laws_eqSlotS.calls kj14 _ _ t317 _ _ t325 true _ ?side1 ?side2 ?side3 ?side4 A33.out).mono ?_); (case side1 => repeat (first | exact (Kd.R_reads' HO_12.out).2.2 | (with_reducible refine Kd.C_alloc ?_ _) | (with_reducible refine Kd.C_drewN ?_ _) | (with_reducible refine Kd.C_drew ?_))); (case side2 => exact (Kd.R_reads' HO_12.out).2.1); (case side3 => repeat (first | exact (Kd.R_reads' HO327.out).2.2 | (with_reducible refine Kd.C_alloc ?_ _) | (with_reducible refine Kd.C_drewN ?_ _) | (with_reducible refine Kd.C_drew ?_))); (case side4 => exact (Kd.R_reads' HO327.out).2.1); rintro e w39 ⟨rfl, hb⟩; refine ⟨_, rfl, ?_⟩; have n0_ := Aside0.mk (Kd.R_below (by (with_reducible repeat (first | apply Kd.R_alloc | apply Kd.R_drewN | apply Kd.R_drew)); exact HO_10.out) hb); have n1_ := Aside0.mk (Kd.R_below (by (with_reducible repeat (first | apply Kd.R_alloc | apply Kd.R_drewN | apply Kd.R_drew)); exact HO_12.out) hb); have n2_ := Aside0.mk (Kd.R_below (by (with_reducible repeat (first | apply Kd.R_alloc | apply Kd.R_drewN | apply Kd.R_drew)); exact HO_13.out) hb); have n3_ := Aside0.mk (Kd.R_below (by (with_reducible repeat (first | apply Kd.R_alloc | apply Kd.R_drewN | apply Kd.R_drew)); exact HO327.out) hb); have n4_ := Aside0.mk (below_step (by repeat (first | (with_reducible first | exact HB.out | apply below_alloc | apply pw_below_drewN | apply below_drew1) | exact HB.out)) hb); clear HO_10; clear HO_12; clear HO_13; clear HO327; clear HB; have HO_10 := n0_; have HO_12 := n1_; have HO_13 := n2_; have HO327 := n3_; have HB := n4_; clear n0_ n1_ n2_ n3_ n4_; (try clear hb); (try clear hb2); (try clear hk); (try clear hi)) | ((with_reducible refine gate_callee (f := 63) rfl ?_); refine goesL_ (some 69) rfl rfl Try.func63 (by kernel_rfl) rfl #[.slice Ao21 t317.length co21, .int .i64 1] rfl (by (try simp only [List.map_toArray, List.map_cons, List.map_nil]); first | done | rfl | (simp only [List.length_drop, List.length_take]; rfl)) ?_; (with_reducible refine (laws_markSlotS.calls kj14 (fun k_ => some k_ = (.slice Ao21 t317.length co21 : Value).ownBlock) (.slice Ao21 t317.length co21) t317 1 t329 t330 w _ ?side1 ?side2 A35.out).mono ?_); (case side1 => repeat (first | (with_reducible first | exact HB.out | apply below_alloc | apply pw_below_drewN | apply below_drew1) | exact HB.out)); (case side2 => exact Kd.R_tight rfl HO_12.out); rintro e w40 ⟨rfl, hy0, hb, hkp⟩; refine ⟨_, rfl, ?_⟩; have n0_ := Aside0.mk (Kd.R_mono (ok' := fun k_ => some k_ ≠ (.slice Ao21 t317.length co21 : Value).ownBlock ∧ some k_ ≠ (v322 : Value).ownBlock ∧ some k_ ≠ (.slice Ao38 t325.length co38 : Value).ownBlock) (Kd.R_keptB (HO_10.out) hkp (fun k_ hk_ hs_ => (hk_.1.1) hs_)) (fun k_ hk_ => ⟨hk_.1.1.1, hk_.1.1.2, hk_.1.2⟩)); have n1_ := Aside0.mk (Kd.R_reok rfl hy0 (fun k_ e_ => HO_12.out.1 k_ e_)); have n2_ := Aside0.mk (Kd.R_mono (ok' := fun k_ => some k_ ≠ (v315 : Value).ownBlock ∧ some k_ ≠ (.slice Ao21 t317.length co21 : Value).ownBlock ∧ some k_ ≠ (.slice Ao38 t325.length co38 : Value).ownBlock) (Kd.R_keptB (HO_13.out) hkp (fun k_ hk_ hs_ => (hk_.1.2) hs_)) (fun k_ hk_ => ⟨hk_.1.1.1, hk_.1.1.2, hk_.1.2⟩)); have n3_ := Aside0.mk (Kd.R_mono (ok' := fun k_ => some k_ ≠ (v315 : Value).ownBlock ∧ some k_ ≠ (.slice Ao21 t317.length co21 : Value).ownBlock ∧ some k_ ≠ (v322 : Value).ownBlock) (Kd.R_keptB (HO327.out) hkp (fun k_ hk_ hs_ => (hk_.1.2) hs_)) (fun k_ hk_ => ⟨hk_.1.1.1.2, hk_.1.1.2, hk_.1.2⟩)); have n4_ := Aside0.mk (hb); clear HO_10; clear HO_12; clear HO_13; clear HO327; clear HB; have HO_10 := n0_; have HO_12 := n1_; have HO_13 := n2_; have HO327 := n3_; have HB := n4_; clear n0_ n1_ n2_ n3_ n4_; (try clear hb); (try clear hkp); (try clear hy0)))
         (try simp only [Act.put, List.setIfInBounds_toArray, List.set_cons_zero, List.set_cons_succ])
         go_cut [82] (fun v82 wc => ∃ (kq : Nat) (x82_35 : Bool), v82 = .bool x82_35 ∧ Aside0 (laws_FnExactPutSlot.j1 kq l0 a1 a2 a3 t313 t314 t320 x82_35 = some r) ∧ Aside0 (kq ≤ kj14) ∧ Aside0 (Kd.R k72 72 wc w.heap.size (fun k_ => some k_ ≠ (v322 : Value).ownBlock) v315 t313) ∧ Aside0 (Kd.R k72 72 wc w.heap.size (fun k_ => some k_ ≠ (v315 : Value).ownBlock) v322 t320) ∧ Aside0 (Below w.heap.size w wc))
         case first =>
          have H := HC36.out
          clear HC36
          by_cases c41 : t329 < 0
          ·rw [if_pos c41] at H
           have c41b0 : decide (t329 < 0) = true := decide_eq_true c41
           clear c41
           (first | rw [c41b0] | (simp only [i64_w, i32_w]; rw [c41b0]) | skip)
           have H' := Aside0.mk H
           clear H
           go_wp2
           go_meet
           case rel => exact ⟨_, (true), (by first | rfl | (simp; done) | (simp [*]; done) | (simp [bne]; done)), H', ⟨by have := HJ14.out; first | omega | exact Nat.le_refl _⟩, ⟨by (with_reducible repeat (first | apply Kd.R_alloc | apply Kd.R_drewN | apply Kd.R_drew)); exact Kd.R_mono HO_10.out (fun _ hk => hk.2.1)⟩, ⟨by (with_reducible repeat (first | apply Kd.R_alloc | apply Kd.R_drewN | apply Kd.R_drew)); exact Kd.R_mono HO_13.out (fun _ hk => hk.1)⟩, ⟨by repeat (first | (with_reducible first | exact HB.out | apply below_alloc | apply pw_below_drewN | apply below_drew1) | exact HB.out)⟩⟩
          ·rw [if_neg c41] at H
           have c41b0 : decide (t329 < 0) = false := decide_eq_false c41
           clear c41
           (first | rw [c41b0] | (simp only [i64_w, i32_w]; rw [c41b0]) | skip)
           replace H := Option.bind_eq_some_iff.mp H
           obtain ⟨t331, A420, H⟩ := H
           replace H : (if t331 = true then (laws_FnExactPutSlot.j1 kj14 l0 a1 a2 a3 t313 t314 t320 (t321 != t314)) else (laws_FnExactPutSlot.j1 kj14 l0 a1 a2 a3 t313 t314 t320 true)) = some r := H
           have A42 := Aside0.mk A420
           clear A420
           by_cases c43 : t331 = true
           ·subst c43
            have H1 : (laws_FnExactPutSlot.j1 kj14 l0 a1 a2 a3 t313 t314 t320 (t321 != t314)) = some r := by rw [if_pos rfl] at H; exact H
            clear H
            have H := H1
            clear H1
            have H' := Aside0.mk H
            clear H
            obtain ⟨Ao44, co44, eo44⟩ := Kd.R_slice HO_13.out
            subst eo44
            obtain ⟨Ao45, co45, eo45⟩ := Kd.R_slice HO_10.out
            subst eo45
            go_wp2_with (first | (go_at_call 19; (with_reducible refine (laws_eqSlotS.calls kj14 _ _ t320 _ _ t313 true _ ?side1 ?side2 ?side3 ?side4 A42.out).mono ?_); (case side1 => repeat (first | exact (Kd.R_reads' HO_13.out).2.2 | (with_reducible refine Kd.C_alloc ?_ _) | (with_reducible refine Kd.C_drewN ?_ _) | (with_reducible refine Kd.C_drew ?_))); (case side2 => exact (Kd.R_reads' HO_13.out).2.1); (case side3 => repeat (first | exact (Kd.R_reads' HO_10.out).2.2 | (with_reducible refine Kd.C_alloc ?_ _) | (with_reducible refine Kd.C_drewN ?_ _) | (with_reducible refine Kd.C_drew ?_))); (case side4 => exact (Kd.R_reads' HO_10.out).2.1); rintro e w46 ⟨rfl, hb⟩; have n0_ := Aside0.mk (Kd.R_below (by (with_reducible repeat (first | apply Kd.R_alloc | apply Kd.R_drewN | apply Kd.R_drew)); exact HO_10.out) hb); have n1_ := Aside0.mk (Kd.R_below (by (with_reducible repeat (first | apply Kd.R_alloc | apply Kd.R_drewN | apply Kd.R_drew)); exact HO_12.out) hb); have n2_ := Aside0.mk (Kd.R_below (by (with_reducible repeat (first | apply Kd.R_alloc | apply Kd.R_drewN | apply Kd.R_drew)); exact HO_13.out) hb); have n3_ := Aside0.mk (Kd.R_below (by (with_reducible repeat (first | apply Kd.R_alloc | apply Kd.R_drewN | apply Kd.R_drew)); exact HO327.out) hb); have n4_ := Aside0.mk (below_step (by repeat (first | (with_reducible first | exact HB.out | apply below_alloc | apply pw_below_drewN | apply below_drew1) | exact HB.out)) hb); clear HO_10; clear HO_12; clear HO_13; clear HO327; clear HB; have HO_10 := n0_; have HO_12 := n1_; have HO_13 := n2_; have HO327 := n3_; have HB := n4_; clear n0_ n1_ n2_ n3_ n4_; (try clear hb); (try clear hb2); (try clear hk); (try clear hi)))
            go_meet
            case rel => exact ⟨_, ((t321 != t314)), (by first | rfl | (simp; done) | (simp [*]; done) | (simp [bne]; done)), H', ⟨by have := HJ14.out; first | omega | exact Nat.le_refl _⟩, ⟨by (with_reducible repeat (first | apply Kd.R_alloc | apply Kd.R_drewN | apply Kd.R_drew)); exact Kd.R_mono HO_10.out (fun _ hk => hk.2.1)⟩, ⟨by (with_reducible repeat (first | apply Kd.R_alloc | apply Kd.R_drewN | apply Kd.R_drew)); exact Kd.R_mono HO_13.out (fun _ hk => hk.1)⟩, ⟨by repeat (first | (with_reducible first | exact HB.out | apply below_alloc | apply pw_below_drewN | apply below_drew1) | exact HB.out)⟩⟩
           ·replace c43 := Bool.eq_false_iff.mpr c43
            subst c43
            have H1 : (laws_FnExactPutSlot.j1 kj14 l0 a1 a2 a3 t313 t314 t320 true) = some r := by rw [if_neg (show ¬ (false = true) by decide)] at H; exact H
            clear H
            have H := H1
            clear H1
            have H' := Aside0.mk H
            clear H
            obtain ⟨Ao47, co47, eo47⟩ := Kd.R_slice HO_13.out
            subst eo47
            obtain ⟨Ao48, co48, eo48⟩ := Kd.R_slice HO_10.out
            subst eo48
            go_wp2_with (first | (go_at_call 19; (with_reducible refine (laws_eqSlotS.calls kj14 _ _ t320 _ _ t313 false _ ?side1 ?side2 ?side3 ?side4 A42.out).mono ?_); (case side1 => repeat (first | exact (Kd.R_reads' HO_13.out).2.2 | (with_reducible refine Kd.C_alloc ?_ _) | (with_reducible refine Kd.C_drewN ?_ _) | (with_reducible refine Kd.C_drew ?_))); (case side2 => exact (Kd.R_reads' HO_13.out).2.1); (case side3 => repeat (first | exact (Kd.R_reads' HO_10.out).2.2 | (with_reducible refine Kd.C_alloc ?_ _) | (with_reducible refine Kd.C_drewN ?_ _) | (with_reducible refine Kd.C_drew ?_))); (case side4 => exact (Kd.R_reads' HO_10.out).2.1); rintro e w49 ⟨rfl, hb⟩; have n0_ := Aside0.mk (Kd.R_below (by (with_reducible repeat (first | apply Kd.R_alloc | apply Kd.R_drewN | apply Kd.R_drew)); exact HO_10.out) hb); have n1_ := Aside0.mk (Kd.R_below (by (with_reducible repeat (first | apply Kd.R_alloc | apply Kd.R_drewN | apply Kd.R_drew)); exact HO_12.out) hb); have n2_ := Aside0.mk (Kd.R_below (by (with_reducible repeat (first | apply Kd.R_alloc | apply Kd.R_drewN | apply Kd.R_drew)); exact HO_13.out) hb); have n3_ := Aside0.mk (Kd.R_below (by (with_reducible repeat (first | apply Kd.R_alloc | apply Kd.R_drewN | apply Kd.R_drew)); exact HO327.out) hb); have n4_ := Aside0.mk (below_step (by repeat (first | (with_reducible first | exact HB.out | apply below_alloc | apply pw_below_drewN | apply below_drew1) | exact HB.out)) hb); clear HO_10; clear HO_12; clear HO_13; clear HO327; clear HB; have HO_10 := n0_; have HO_12 := n1_; have HO_13 := n2_; have HO327 := n3_; have HB := n4_; clear n0_ n1_ n2_ n3_ n4_; (try clear hb); (try clear hb2); (try clear hk); (try clear hi)))
            go_meet
            case rel => exact ⟨_, (true), (by first | rfl | (simp; done) | (simp [*]; done) | (simp [bne]; done)), H', ⟨by have := HJ14.out; first | omega | exact Nat.le_refl _⟩, ⟨by (with_reducible repeat (first | apply Kd.R_alloc | apply Kd.R_drewN | apply Kd.R_drew)); exact Kd.R_mono HO_10.out (fun _ hk => hk.2.1)⟩, ⟨by (with_reducible repeat (first | apply Kd.R_alloc | apply Kd.R_drewN | apply Kd.R_drew)); exact Kd.R_mono HO_13.out (fun _ hk => hk.1)⟩, ⟨by repeat (first | (with_reducible first | exact HB.out | apply below_alloc | apply pw_below_drewN | apply below_drew1) | exact HB.out)⟩⟩
         case rest =>
          clear HC36
          try clear c1
          try clear c2
          try clear p2
          try clear c3
          try clear c4
          try clear c5
          try clear c5b0
          try clear c5b1
          try clear c6
          try clear c6b0
          try clear c6b1
          try clear c7
          try clear c7b0
          try clear c7b1
          try clear c9
          try clear c9b0
          try clear c10
          try clear c15
          try clear c17
          try clear c19
          try clear c24
          try clear c31
          try clear c34
          try clear c41
          try clear c41b0
          try clear c43
          try clear p2
          obtain ⟨kq, x82_35, rfl, HA, HJ35, HO_10, HO_13, HB⟩ := hcut
          cases kq with
          | zero => exact absurd HA.out (by simp [laws_FnExactPutSlot.j1])
          | succ kj35 =>
           have H := HA.out
           clear HA
           simp only [laws_FnExactPutSlot.j1] at H
           by_cases c50 : x82_35 = true
           ·subst c50
            have H1 : (some false) = some r := by rw [if_pos rfl] at H; exact H
            clear H
            have H := H1
            clear H1
            obtain rfl := Option.some.inj H
            go_wp2
            go_ret
            exact ⟨by first | rfl | (simp [errW_none, errW_some] <;> rfl) | (simp [*, errW_none, errW_some] <;> rfl), by repeat (first | (with_reducible first | exact HB.out | apply below_alloc | apply pw_below_drewN | apply below_drew1) | exact HB.out)⟩
           ·replace c50 := Bool.eq_false_iff.mpr c50
            subst c50
            have H1 : ((laws_markSlotS.f kj35 t320 1).bind fun bt332 => ((laws_heldSlotS.f kj35 bt332.2 1).bind fun t334 => (if t334 < 0 then (some false) else (if t334 = bt332.1 then ((laws_toSlotS.f kj35 l0).bind fun t335 => ((impl_PutSlot.f kj35 t335 a1 a2 a3).bind fun bt338 => ((laws_eqSlotS.f kj35 bt338.1 t313).bind fun t342 => (if t342 = true then (laws_FnExactPutSlot.j2 kj35 bt332.2 bt332.1 (bt338.2 != t314)) else (laws_FnExactPutSlot.j2 kj35 bt332.2 bt332.1 true))))) else (some false))))) = some r := by rw [if_neg (show ¬ (false = true) by decide)] at H; exact H
            clear H
            have H := H1
            clear H1
            replace H := Option.bind_eq_some_iff.mp H
            obtain ⟨⟨t332, t333⟩, A510, H⟩ := H
            replace H : ((laws_heldSlotS.f kj35 t333 1).bind fun t334 => (if t334 < 0 then (some false) else (if t334 = t332 then ((laws_toSlotS.f kj35 l0).bind fun t335 => ((impl_PutSlot.f kj35 t335 a1 a2 a3).bind fun bt338 => ((laws_eqSlotS.f kj35 bt338.1 t313).bind fun t342 => (if t342 = true then (laws_FnExactPutSlot.j2 kj35 t333 t332 (bt338.2 != t314)) else (laws_FnExactPutSlot.j2 kj35 t333 t332 true))))) else (some false)))) = some r := H
            have A51 := Aside0.mk A510
            clear A510
            replace H := Option.bind_eq_some_iff.mp H
            obtain ⟨t334, A520, H⟩ := H
            replace H : (if t334 < 0 then (some false) else (if t334 = t332 then ((laws_toSlotS.f kj35 l0).bind fun t335 => ((impl_PutSlot.f kj35 t335 a1 a2 a3).bind fun bt338 => ((laws_eqSlotS.f kj35 bt338.1 t313).bind fun t342 => (if t342 = true then (laws_FnExactPutSlot.j2 kj35 t333 t332 (bt338.2 != t314)) else (laws_FnExactPutSlot.j2 kj35 t333 t332 true))))) else (some false))) = some r := H
            have A52 := Aside0.mk A520
            clear A520
            by_cases c53 : t334 < 0
            ·rw [if_pos c53] at H
             have c53b0 : decide (t334 < 0) = true := decide_eq_true c53
             clear c53
             obtain rfl := Option.some.inj H
             obtain ⟨Ao54, co54, eo54⟩ := Kd.R_slice HO_13.out
             subst eo54
             go_wp2_with (first | ((with_reducible refine gate_callee (f := 63) rfl ?_); refine goesL_ (some 85) rfl rfl Try.func63 (by kernel_rfl) rfl #[.slice Ao54 t320.length co54, .int .i64 1] rfl (by (try simp only [List.map_toArray, List.map_cons, List.map_nil]); first | done | rfl | (simp only [List.length_drop, List.length_take]; rfl)) ?_; (with_reducible refine (laws_markSlotS.calls kj35 (fun k_ => some k_ = (.slice Ao54 t320.length co54 : Value).ownBlock) (.slice Ao54 t320.length co54) t320 1 t332 t333 w _ ?side1 ?side2 A51.out).mono ?_); (case side1 => repeat (first | (with_reducible first | exact HB.out | apply below_alloc | apply pw_below_drewN | apply below_drew1) | exact HB.out)); (case side2 => exact Kd.R_tight rfl HO_13.out); rintro e w55 ⟨rfl, hy0, hb, hkp⟩; refine ⟨_, rfl, ?_⟩; have n0_ := Aside0.mk (Kd.R_mono (ok' := fun k_ => some k_ ≠ (.slice Ao54 t320.length co54 : Value).ownBlock) (Kd.R_keptB (HO_10.out) hkp (fun k_ hk_ hs_ => (hk_) hs_)) (fun k_ hk_ => hk_.1)); have n1_ := Aside0.mk (Kd.R_reok rfl hy0 (fun k_ e_ => HO_13.out.1 k_ e_)); have n2_ := Aside0.mk (hb); clear HO_10; clear HO_13; clear HB; have HO_10 := n0_; have HO_13 := n1_; have HB := n2_; clear n0_ n1_ n2_; (try clear hb); (try clear hkp); (try clear hy0)) | ((with_reducible refine gate_callee (f := 64) rfl ?_); refine goesL_ (some 88) rfl rfl Try.func64 (by kernel_rfl) rfl #[.slice Ao54 t333.length co54, .int .i64 1] rfl (by (try simp only [List.map_toArray, List.map_cons, List.map_nil]); first | done | (rw [show t333.length = t320.length from (Kd.R_reads' HO_13.out).1.symm] <;> rfl) | rfl | (simp only [List.length_drop, List.length_take]; rfl)) ?_; (with_reducible refine (laws_heldSlotS.calls kj35 _ _ t333 1 t334 _ ?side1 ?side2 A52.out).mono ?_); (case side1 => repeat (first | exact (Kd.R_reads' HO_13.out).2.2 | (with_reducible refine Kd.C_alloc ?_ _) | (with_reducible refine Kd.C_drewN ?_ _) | (with_reducible refine Kd.C_drew ?_))); (case side2 => rw [show t333.length = t320.length from (Kd.R_reads' HO_13.out).1.symm]; exact (Kd.R_reads' HO_13.out).2.1); rintro e w56 ⟨rfl, hb⟩; refine ⟨_, rfl, ?_⟩; have n0_ := Aside0.mk (Kd.R_below (by (with_reducible repeat (first | apply Kd.R_alloc | apply Kd.R_drewN | apply Kd.R_drew)); exact HO_10.out) hb); have n1_ := Aside0.mk (Kd.R_below (by (with_reducible repeat (first | apply Kd.R_alloc | apply Kd.R_drewN | apply Kd.R_drew)); exact HO_13.out) hb); have n2_ := Aside0.mk (below_step (by repeat (first | (with_reducible first | exact HB.out | apply below_alloc | apply pw_below_drewN | apply below_drew1) | exact HB.out)) hb); clear HO_10; clear HO_13; clear HB; have HO_10 := n0_; have HO_13 := n1_; have HB := n2_; clear n0_ n1_ n2_; (try clear hb); (try clear hb2); (try clear hk); (try clear hi)))
             go_ret
             exact ⟨by first | rfl | (simp [errW_none, errW_some] <;> rfl) | (simp [*, errW_none, errW_some] <;> rfl), by repeat (first | (with_reducible first | exact HB.out | apply below_alloc | apply pw_below_drewN | apply below_drew1) | exact HB.out)⟩
            ·rw [if_neg c53] at H
             have c53b0 : decide (t334 < 0) = false := decide_eq_false c53
             clear c53
             by_cases c57 : t334 = t332
             ·rw [if_pos c57] at H
              have c57b0 : (t334 == t332) = true := beq_iff_eq.mpr c57
              have c57b1 : (t334 != t332) = false := bne_eq_false_iff_eq.mpr c57
              clear c57
              replace H := Option.bind_eq_some_iff.mp H
              obtain ⟨t335, A580, H⟩ := H
              replace H : ((impl_PutSlot.f kj35 t335 a1 a2 a3).bind fun bt338 => ((laws_eqSlotS.f kj35 bt338.1 t313).bind fun t342 => (if t342 = true then (laws_FnExactPutSlot.j2 kj35 t333 t332 (bt338.2 != t314)) else (laws_FnExactPutSlot.j2 kj35 t333 t332 true)))) = some r := H
              have A58 := Aside0.mk A580
              clear A580
              replace H := Option.bind_eq_some_iff.mp H
              obtain ⟨⟨t338, t339⟩, A590, H⟩ := H
              replace H : ((laws_eqSlotS.f kj35 t338 t313).bind fun t342 => (if t342 = true then (laws_FnExactPutSlot.j2 kj35 t333 t332 (t339 != t314)) else (laws_FnExactPutSlot.j2 kj35 t333 t332 true))) = some r := H
              have A59 := Aside0.mk A590
              clear A590
              have HC60 := Aside0.mk H
              clear H
              obtain ⟨Ao61, co61, eo61⟩ := Kd.R_slice HO_13.out
              subst eo61
              go_upto_region 31 with (first | ((with_reducible refine gate_callee (f := 63) rfl ?_); refine goesL_ (some 85) rfl rfl Try.func63 (by kernel_rfl) rfl #[.slice Ao61 t320.length co61, .int .i64 1] rfl (by (try simp only [List.map_toArray, List.map_cons, List.map_nil]); first | done | rfl | (simp only [List.length_drop, List.length_take]; rfl)) ?_; (with_reducible refine (laws_markSlotS.calls kj35 (fun k_ => some k_ = (.slice Ao61 t320.length co61 : Value).ownBlock) (.slice Ao61 t320.length co61) t320 1 t332 t333 w _ ?side1 ?side2 A51.out).mono ?_); (case side1 => repeat (first | (with_reducible first | exact HB.out | apply below_alloc | apply pw_below_drewN | apply below_drew1) | exact HB.out)); (case side2 => exact Kd.R_tight rfl HO_13.out); rintro e w62 ⟨rfl, hy0, hb, hkp⟩; refine ⟨_, rfl, ?_⟩; have n0_ := Aside0.mk (Kd.R_mono (ok' := fun k_ => some k_ ≠ (.slice Ao61 t320.length co61 : Value).ownBlock) (Kd.R_keptB (HO_10.out) hkp (fun k_ hk_ hs_ => (hk_) hs_)) (fun k_ hk_ => hk_.1)); have n1_ := Aside0.mk (Kd.R_reok rfl hy0 (fun k_ e_ => HO_13.out.1 k_ e_)); have n2_ := Aside0.mk (hb); clear HO_10; clear HO_13; clear HB; have HO_10 := n0_; have HO_13 := n1_; have HB := n2_; clear n0_ n1_ n2_; (try clear hb); (try clear hkp); (try clear hy0)) | ((with_reducible refine gate_callee (f := 64) rfl ?_); refine goesL_ (some 88) rfl rfl Try.func64 (by kernel_rfl) rfl #[.slice Ao61 t333.length co61, .int .i64 1] rfl (by (try simp only [List.map_toArray, List.map_cons, List.map_nil]); first | done | (rw [show t333.length = t320.length from (Kd.R_reads' HO_13.out).1.symm] <;> rfl) | rfl | (simp only [List.length_drop, List.length_take]; rfl)) ?_; (with_reducible refine (laws_heldSlotS.calls kj35 _ _ t333 1 t334 _ ?side1 ?side2 A52.out).mono ?_); (case side1 => repeat (first | exact (Kd.R_reads' HO_13.out).2.2 | (with_reducible refine Kd.C_alloc ?_ _) | (with_reducible refine Kd.C_drewN ?_ _) | (with_reducible refine Kd.C_drew ?_))); (case side2 => rw [show t333.length = t320.length from (Kd.R_reads' HO_13.out).1.symm]; exact (Kd.R_reads' HO_13.out).2.1); rintro e w63 ⟨rfl, hb⟩; refine ⟨_, rfl, ?_⟩; have n0_ := Aside0.mk (Kd.R_below (by (with_reducible repeat (first | apply Kd.R_alloc | apply Kd.R_drewN | apply Kd.R_drew)); exact HO_10.out) hb); have n1_ := Aside0.mk (Kd.R_below (by (with_reducible repeat (first | apply Kd.R_alloc | apply Kd.R_drewN | apply Kd.R_drew)); exact HO_13.out) hb); have n2_ := Aside0.mk (below_step (by repeat (first | (with_reducible first | exact HB.out | apply below_alloc | apply pw_below_drewN | apply below_drew1) | exact HB.out)) hb); clear HO_10; clear HO_13; clear HB; have HO_10 := n0_; have HO_13 := n1_; have HB := n2_; clear n0_ n1_ n2_; (try clear hb); (try clear hb2); (try clear hk); (try clear hi)) | ((with_reducible refine gate_callee (f := 17) rfl ?_); refine goesL_ (some 96) rfl rfl Try.func17 (by kernel_rfl) rfl #[.slice A0 l0.length c0] rfl (by (try simp only [List.map_toArray, List.map_cons, List.map_nil]); first | done | rfl | (simp only [List.length_drop, List.length_take]; rfl)) ?_; (with_reducible refine (laws_toSlotS.calls kj35 _ _ l0 t335 _ ?side1 ?side2 A58.out).mono ?_); (case side1 => repeat (first | exact (Kd.C_below HR0.out HB.out) | (with_reducible refine Kd.C_alloc ?_ _) | (with_reducible refine Kd.C_drewN ?_ _) | (with_reducible refine Kd.C_drew ?_))); (case side2 => exact HC0.out); rintro e w64 ⟨v336, rfl, ho0, hb⟩; refine ⟨_, rfl, ?_⟩; have n0_ := Aside0.mk (Kd.R_elder' (by (with_reducible repeat (first | apply Kd.R_alloc | apply Kd.R_drewN | apply Kd.R_drew)); exact HO_10.out) (Kd.R_base ho0) hb); have n1_ := Aside0.mk (Kd.R_elder' (by (with_reducible repeat (first | apply Kd.R_alloc | apply Kd.R_drewN | apply Kd.R_drew)); exact HO_13.out) (Kd.R_base ho0) hb); have n2_ := Aside0.mk (Kd.R_lower (Kd.R_new' (Kd.R_new' ho0 (Kd.R_lt (by (with_reducible repeat (first | apply Kd.R_alloc | apply Kd.R_drewN | apply Kd.R_drew)); exact HO_10.out))) (Kd.R_lt (by (with_reducible repeat (first | apply Kd.R_alloc | apply Kd.R_drewN | apply Kd.R_drew)); exact HO_13.out))) (below_size (by repeat (first | (with_reducible first | exact HB.out | apply below_alloc | apply pw_below_drewN | apply below_drew1) | exact HB.out)))); have n3_ := Aside0.mk (below_step (by repeat (first | (with_reducible first | exact HB.out | apply below_alloc | apply pw_below_drewN | apply below_drew1) | exact HB.out)) hb); clear HO_10; clear HO_13; clear HB; have HO_10 := n0_; have HO_13 := n1_; have HO337 := n2_; have HB := n3_; clear n0_ n1_ n2_ n3_; (try clear hb); (try clear hb2); (try clear hk); (try clear hi); (try clear ho0); obtain ⟨Ao65, co65, eo65⟩ := Kd.R_slice HO337.out; subst eo65) | ((with_reducible refine gate_callee (f := 62) rfl ?_); refine goesL_ (some 100) rfl rfl Try.func62 (by kernel_rfl) rfl #[.slice Ao65 t335.length co65, .string a1, .string a2, .string a3] rfl (by (try simp only [List.map_toArray, List.map_cons, List.map_nil]); first | done | rfl | (simp only [List.length_drop, List.length_take]; rfl)) ?_; (with_reducible refine (impl_PutSlot.calls kj35 _ _ t335 a1 a2 a3 t338 t339 _ ?side1 ?side2 A59.out).mono ?_); (case side1 => repeat (first | exact (Kd.R_reads' HO337.out).2.2 | (with_reducible refine Kd.C_alloc ?_ _) | (with_reducible refine Kd.C_drewN ?_ _) | (with_reducible refine Kd.C_drew ?_))); (case side2 => exact (Kd.R_reads' HO337.out).2.1); rintro e w66 ⟨v340, rfl, ho0, hb⟩; refine ⟨_, rfl, ?_⟩; have n0_ := Aside0.mk (Kd.R_elder' (by (with_reducible repeat (first | apply Kd.R_alloc | apply Kd.R_drewN | apply Kd.R_drew)); exact HO_10.out) (Kd.R_base ho0) hb); have n1_ := Aside0.mk (Kd.R_elder' (by (with_reducible repeat (first | apply Kd.R_alloc | apply Kd.R_drewN | apply Kd.R_drew)); exact HO_13.out) (Kd.R_base ho0) hb); have n2_ := Aside0.mk (Kd.R_elder' (by (with_reducible repeat (first | apply Kd.R_alloc | apply Kd.R_drewN | apply Kd.R_drew)); exact HO337.out) (Kd.R_base ho0) hb); have n3_ := Aside0.mk (Kd.R_lower (Kd.R_new' (Kd.R_new' (Kd.R_new' ho0 (Kd.R_lt (by (with_reducible repeat (first | apply Kd.R_alloc | apply Kd.R_drewN | apply Kd.R_drew)); exact HO_10.out))) (Kd.R_lt (by (with_reducible repeat (first | apply Kd.R_alloc | apply Kd.R_drewN | apply Kd.R_drew)); exact HO_13.out))) (Kd.R_lt (by (with_reducible repeat (first | apply Kd.R_alloc | apply Kd.R_drewN | apply Kd.R_drew)); exact HO337.out))) (below_size (by repeat (first | (with_reducible first | exact HB.out | apply below_alloc | apply pw_below_drewN | apply below_drew1) | exact HB.out)))); have n4_ := Aside0.mk (below_step (by repeat (first | (with_reducible first | exact HB.out | apply below_alloc | apply pw_below_drewN | apply below_drew1) | exact HB.out)) hb); clear HO_10; clear HO_13; clear HO337; clear HB; have HO_10 := n0_; have HO_13 := n1_; have HO337 := n2_; have HO341 := n3_; have HB := n4_; clear n0_ n1_ n2_ n3_ n4_; (try clear hb); (try clear hb2); (try clear hk); (try clear hi); (try clear ho0)))
              (try simp only [Act.put, List.setIfInBounds_toArray, List.set_cons_zero, List.set_cons_succ])
              go_cut [111] (fun v111 wc => ∃ (kq : Nat) (x111_59 : Bool), v111 = .bool x111_59 ∧ Aside0 (laws_FnExactPutSlot.j2 kq t333 t332 x111_59 = some r) ∧ Aside0 (kq ≤ kj35) ∧ Aside0 (Kd.R k72 72 wc w.heap.size (fun _ => True) (.slice Ao61 t320.length co61) t333) ∧ Aside0 (Below w.heap.size w wc))
              case first =>
               have H := HC60.out
               clear HC60
               replace H := Option.bind_eq_some_iff.mp H
               obtain ⟨t342, A670, H⟩ := H
               replace H : (if t342 = true then (laws_FnExactPutSlot.j2 kj35 t333 t332 (t339 != t314)) else (laws_FnExactPutSlot.j2 kj35 t333 t332 true)) = some r := H
               have A67 := Aside0.mk A670
               clear A670
               by_cases c68 : t342 = true
               ·subst c68
                have H1 : (laws_FnExactPutSlot.j2 kj35 t333 t332 (t339 != t314)) = some r := by rw [if_pos rfl] at H; exact H
                clear H
                have H := H1
                clear H1
                have H' := Aside0.mk H
                clear H
                obtain ⟨Ao69, co69, eo69⟩ := Kd.R_slice HO341.out
                subst eo69
                obtain ⟨Ao70, co70, eo70⟩ := Kd.R_slice HO_10.out
                subst eo70
                go_wp2_with (first | ((with_reducible refine gate_callee (f := 19) rfl ?_); refine goesL_ (some 105) rfl rfl Try.func19 (by kernel_rfl) rfl #[.slice Ao69 t338.length co69, .slice Ao70 t313.length co70] rfl (by (try simp only [List.map_toArray, List.map_cons, List.map_nil]); first | done | rfl | (simp only [List.length_drop, List.length_take]; rfl)) ?_; (with_reducible refine (laws_eqSlotS.calls kj35 _ _ t338 _ _ t313 true _ ?side1 ?side2 ?side3 ?side4 A67.out).mono ?_); (case side1 => repeat (first | exact (Kd.R_reads' HO341.out).2.2 | (with_reducible refine Kd.C_alloc ?_ _) | (with_reducible refine Kd.C_drewN ?_ _) | (with_reducible refine Kd.C_drew ?_))); (case side2 => exact (Kd.R_reads' HO341.out).2.1); (case side3 => repeat (first | exact (Kd.R_reads' HO_10.out).2.2 | (with_reducible refine Kd.C_alloc ?_ _) | (with_reducible refine Kd.C_drewN ?_ _) | (with_reducible refine Kd.C_drew ?_))); (case side4 => exact (Kd.R_reads' HO_10.out).2.1); rintro e w71 ⟨rfl, hb⟩; refine ⟨_, rfl, ?_⟩; have n0_ := Aside0.mk (Kd.R_below (by (with_reducible repeat (first | apply Kd.R_alloc | apply Kd.R_drewN | apply Kd.R_drew)); exact HO_10.out) hb); have n1_ := Aside0.mk (Kd.R_below (by (with_reducible repeat (first | apply Kd.R_alloc | apply Kd.R_drewN | apply Kd.R_drew)); exact HO_13.out) hb); have n2_ := Aside0.mk (Kd.R_below (by (with_reducible repeat (first | apply Kd.R_alloc | apply Kd.R_drewN | apply Kd.R_drew)); exact HO337.out) hb); have n3_ := Aside0.mk (Kd.R_below (by (with_reducible repeat (first | apply Kd.R_alloc | apply Kd.R_drewN | apply Kd.R_drew)); exact HO341.out) hb); have n4_ := Aside0.mk (below_step (by repeat (first | (with_reducible first | exact HB.out | apply below_alloc | apply pw_below_drewN | apply below_drew1) | exact HB.out)) hb); clear HO_10; clear HO_13; clear HO337; clear HO341; clear HB; have HO_10 := n0_; have HO_13 := n1_; have HO337 := n2_; have HO341 := n3_; have HB := n4_; clear n0_ n1_ n2_ n3_ n4_; (try clear hb); (try clear hb2); (try clear hk); (try clear hi)))
                go_meet
                case rel => exact ⟨_, ((t339 != t314)), (by first | rfl | (simp; done) | (simp [*]; done) | (simp [bne]; done)), H', ⟨by have := HJ14.out; have := HJ35.out; first | omega | exact Nat.le_refl _⟩, ⟨by (with_reducible repeat (first | apply Kd.R_alloc | apply Kd.R_drewN | apply Kd.R_drew)); exact Kd.R_mono HO_13.out (fun _ hk => trivial)⟩, ⟨by repeat (first | (with_reducible first | exact HB.out | apply below_alloc | apply pw_below_drewN | apply below_drew1) | exact HB.out)⟩⟩
               ·replace c68 := Bool.eq_false_iff.mpr c68
                subst c68
                have H1 : (laws_FnExactPutSlot.j2 kj35 t333 t332 true) = some r := by rw [if_neg (show ¬ (false = true) by decide)] at H; exact H
                clear H
                have H := H1
                clear H1
                have H' := Aside0.mk H
                clear H
                obtain ⟨Ao72, co72, eo72⟩ := Kd.R_slice HO341.out
                subst eo72
                obtain ⟨Ao73, co73, eo73⟩ := Kd.R_slice HO_10.out
                subst eo73
                go_wp2_with (first | ((with_reducible refine gate_callee (f := 19) rfl ?_); refine goesL_ (some 105) rfl rfl Try.func19 (by kernel_rfl) rfl #[.slice Ao72 t338.length co72, .slice Ao73 t313.length co73] rfl (by (try simp only [List.map_toArray, List.map_cons, List.map_nil]); first | done | rfl | (simp only [List.length_drop, List.length_take]; rfl)) ?_; (with_reducible refine (laws_eqSlotS.calls kj35 _ _ t338 _ _ t313 false _ ?side1 ?side2 ?side3 ?side4 A67.out).mono ?_); (case side1 => repeat (first | exact (Kd.R_reads' HO341.out).2.2 | (with_reducible refine Kd.C_alloc ?_ _) | (with_reducible refine Kd.C_drewN ?_ _) | (with_reducible refine Kd.C_drew ?_))); (case side2 => exact (Kd.R_reads' HO341.out).2.1); (case side3 => repeat (first | exact (Kd.R_reads' HO_10.out).2.2 | (with_reducible refine Kd.C_alloc ?_ _) | (with_reducible refine Kd.C_drewN ?_ _) | (with_reducible refine Kd.C_drew ?_))); (case side4 => exact (Kd.R_reads' HO_10.out).2.1); rintro e w74 ⟨rfl, hb⟩; refine ⟨_, rfl, ?_⟩; have n0_ := Aside0.mk (Kd.R_below (by (with_reducible repeat (first | apply Kd.R_alloc | apply Kd.R_drewN | apply Kd.R_drew)); exact HO_10.out) hb); have n1_ := Aside0.mk (Kd.R_below (by (with_reducible repeat (first | apply Kd.R_alloc | apply Kd.R_drewN | apply Kd.R_drew)); exact HO_13.out) hb); have n2_ := Aside0.mk (Kd.R_below (by (with_reducible repeat (first | apply Kd.R_alloc | apply Kd.R_drewN | apply Kd.R_drew)); exact HO337.out) hb); have n3_ := Aside0.mk (Kd.R_below (by (with_reducible repeat (first | apply Kd.R_alloc | apply Kd.R_drewN | apply Kd.R_drew)); exact HO341.out) hb); have n4_ := Aside0.mk (below_step (by repeat (first | (with_reducible first | exact HB.out | apply below_alloc | apply pw_below_drewN | apply below_drew1) | exact HB.out)) hb); clear HO_10; clear HO_13; clear HO337; clear HO341; clear HB; have HO_10 := n0_; have HO_13 := n1_; have HO337 := n2_; have HO341 := n3_; have HB := n4_; clear n0_ n1_ n2_ n3_ n4_; (try clear hb); (try clear hb2); (try clear hk); (try clear hi)))
                go_meet
                case rel => exact ⟨_, (true), (by first | rfl | (simp; done) | (simp [*]; done) | (simp [bne]; done)), H', ⟨by have := HJ14.out; have := HJ35.out; first | omega | exact Nat.le_refl _⟩, ⟨by (with_reducible repeat (first | apply Kd.R_alloc | apply Kd.R_drewN | apply Kd.R_drew)); exact Kd.R_mono HO_13.out (fun _ hk => trivial)⟩, ⟨by repeat (first | (with_reducible first | exact HB.out | apply below_alloc | apply pw_below_drewN | apply below_drew1) | exact HB.out)⟩⟩
              case rest =>
               clear HC60
               try clear c1
               try clear c2
               try clear p2
               try clear c3
               try clear c4
               try clear c5
               try clear c5b0
               try clear c5b1
               try clear c6
               try clear c6b0
               try clear c6b1
               try clear c7
               try clear c7b0
               try clear c7b1
               try clear c9
               try clear c9b0
               try clear c10
               try clear c15
               try clear c17
               try clear c19
               try clear c24
               try clear c31
               try clear c34
               try clear c41
               try clear c41b0
               try clear c43
               try clear c50
               try clear c53
               try clear c53b0
               try clear c57
               try clear c57b0
               try clear c57b1
               try clear c61
               try clear c62
               try clear c63
               try clear c64
               try clear c68
               try clear p2
               obtain ⟨kq, x111_59, rfl, HA, HJ59, HO_13, HB⟩ := hcut
               have hl13_59 := (Kd.R_reads' HO_13.out).1
               rw [hl13_59] at HO_13
               (try simp only [hl13_59])
               cases kq with
               | zero => exact absurd HA.out (by simp [laws_FnExactPutSlot.j2])
               | succ kj59 =>
                have H := HA.out
                clear HA
                simp only [laws_FnExactPutSlot.j2] at H
                by_cases c75 : x111_59 = true
                ·subst c75
                 have H1 : (some false) = some r := by rw [if_pos rfl] at H; exact H
                 clear H
                 have H := H1
                 clear H1
                 obtain rfl := Option.some.inj H
                 go_wp2
                 go_ret
                 exact ⟨by first | rfl | (simp [errW_none, errW_some] <;> rfl) | (simp [*, errW_none, errW_some] <;> rfl), by repeat (first | (with_reducible first | exact HB.out | apply below_alloc | apply pw_below_drewN | apply below_drew1) | exact HB.out)⟩
                ·replace c75 := Bool.eq_false_iff.mpr c75
                 subst c75
                 have H1 : ((laws_heldSlotS.f kj59 t333 1).bind fun t343 => (if t343 < 0 then (some false) else (if t343 = t332 then (some true) else (some false)))) = some r := by rw [if_neg (show ¬ (false = true) by decide)] at H; exact H
                 clear H
                 have H := H1
                 clear H1
                 replace H := Option.bind_eq_some_iff.mp H
                 obtain ⟨t343, A760, H⟩ := H
                 replace H : (if t343 < 0 then (some false) else (if t343 = t332 then (some true) else (some false))) = some r := H
                 have A76 := Aside0.mk A760
                 clear A760
                 by_cases c77 : t343 < 0
                 ·rw [if_pos c77] at H
                  have c77b0 : decide (t343 < 0) = true := decide_eq_true c77
                  clear c77
                  obtain rfl := Option.some.inj H
                  go_wp2_with (first | ((with_reducible refine gate_callee (f := 64) rfl ?_); refine goesL_ (some 114) rfl rfl Try.func64 (by kernel_rfl) rfl #[.slice Ao61 t333.length co61, .int .i64 1] rfl (by (try simp only [List.map_toArray, List.map_cons, List.map_nil]); first | done | rfl | (simp only [List.length_drop, List.length_take]; rfl)) ?_; (with_reducible refine (laws_heldSlotS.calls kj59 _ _ t333 1 t343 _ ?side1 ?side2 A76.out).mono ?_); (case side1 => repeat (first | exact (Kd.R_reads' HO_13.out).2.2 | (with_reducible refine Kd.C_alloc ?_ _) | (with_reducible refine Kd.C_drewN ?_ _) | (with_reducible refine Kd.C_drew ?_))); (case side2 => exact (Kd.R_reads' HO_13.out).2.1); rintro e w78 ⟨rfl, hb⟩; refine ⟨_, rfl, ?_⟩; have n0_ := Aside0.mk (Kd.R_below (by (with_reducible repeat (first | apply Kd.R_alloc | apply Kd.R_drewN | apply Kd.R_drew)); exact HO_13.out) hb); have n1_ := Aside0.mk (below_step (by repeat (first | (with_reducible first | exact HB.out | apply below_alloc | apply pw_below_drewN | apply below_drew1) | exact HB.out)) hb); clear HO_13; clear HB; have HO_13 := n0_; have HB := n1_; clear n0_ n1_; (try clear hb); (try clear hb2); (try clear hk); (try clear hi)))
                  go_ret
                  exact ⟨by first | rfl | (simp [errW_none, errW_some] <;> rfl) | (simp [*, errW_none, errW_some] <;> rfl), by repeat (first | (with_reducible first | exact HB.out | apply below_alloc | apply pw_below_drewN | apply below_drew1) | exact HB.out)⟩
                 ·rw [if_neg c77] at H
                  have c77b0 : decide (t343 < 0) = false := decide_eq_false c77
                  clear c77
                  by_cases c79 : t343 = t332
                  ·rw [if_pos c79] at H
                   have c79b0 : (t343 == t332) = true := beq_iff_eq.mpr c79
                   have c79b1 : (t343 != t332) = false := bne_eq_false_iff_eq.mpr c79
                   clear c79
                   obtain rfl := Option.some.inj H
                   go_wp2_with (first | ((with_reducible refine gate_callee (f := 64) rfl ?_); refine goesL_ (some 114) rfl rfl Try.func64 (by kernel_rfl) rfl #[.slice Ao61 t333.length co61, .int .i64 1] rfl (by (try simp only [List.map_toArray, List.map_cons, List.map_nil]); first | done | rfl | (simp only [List.length_drop, List.length_take]; rfl)) ?_; (with_reducible refine (laws_heldSlotS.calls kj59 _ _ t333 1 t343 _ ?side1 ?side2 A76.out).mono ?_); (case side1 => repeat (first | exact (Kd.R_reads' HO_13.out).2.2 | (with_reducible refine Kd.C_alloc ?_ _) | (with_reducible refine Kd.C_drewN ?_ _) | (with_reducible refine Kd.C_drew ?_))); (case side2 => exact (Kd.R_reads' HO_13.out).2.1); rintro e w80 ⟨rfl, hb⟩; refine ⟨_, rfl, ?_⟩; have n0_ := Aside0.mk (Kd.R_below (by (with_reducible repeat (first | apply Kd.R_alloc | apply Kd.R_drewN | apply Kd.R_drew)); exact HO_13.out) hb); have n1_ := Aside0.mk (below_step (by repeat (first | (with_reducible first | exact HB.out | apply below_alloc | apply pw_below_drewN | apply below_drew1) | exact HB.out)) hb); clear HO_13; clear HB; have HO_13 := n0_; have HB := n1_; clear n0_ n1_; (try clear hb); (try clear hb2); (try clear hk); (try clear hi)))
                   go_ret
                   exact ⟨by first | rfl | (simp [errW_none, errW_some] <;> rfl) | (simp [*, errW_none, errW_some] <;> rfl), by repeat (first | (with_reducible first | exact HB.out | apply below_alloc | apply pw_below_drewN | apply below_drew1) | exact HB.out)⟩
                  ·rw [if_neg c79] at H
                   have c79b0 : (t343 == t332) = false := beq_eq_false_iff_ne.mpr c79
                   have c79b1 : (t343 != t332) = true := bne_iff_ne.mpr c79
                   obtain rfl := Option.some.inj H
                   go_wp2_with (first | ((with_reducible refine gate_callee (f := 64) rfl ?_); refine goesL_ (some 114) rfl rfl Try.func64 (by kernel_rfl) rfl #[.slice Ao61 t333.length co61, .int .i64 1] rfl (by (try simp only [List.map_toArray, List.map_cons, List.map_nil]); first | done | rfl | (simp only [List.length_drop, List.length_take]; rfl)) ?_; (with_reducible refine (laws_heldSlotS.calls kj59 _ _ t333 1 t343 _ ?side1 ?side2 A76.out).mono ?_); (case side1 => repeat (first | exact (Kd.R_reads' HO_13.out).2.2 | (with_reducible refine Kd.C_alloc ?_ _) | (with_reducible refine Kd.C_drewN ?_ _) | (with_reducible refine Kd.C_drew ?_))); (case side2 => exact (Kd.R_reads' HO_13.out).2.1); rintro e w81 ⟨rfl, hb⟩; refine ⟨_, rfl, ?_⟩; have n0_ := Aside0.mk (Kd.R_below (by (with_reducible repeat (first | apply Kd.R_alloc | apply Kd.R_drewN | apply Kd.R_drew)); exact HO_13.out) hb); have n1_ := Aside0.mk (below_step (by repeat (first | (with_reducible first | exact HB.out | apply below_alloc | apply pw_below_drewN | apply below_drew1) | exact HB.out)) hb); clear HO_13; clear HB; have HO_13 := n0_; have HB := n1_; clear n0_ n1_; (try clear hb); (try clear hb2); (try clear hk); (try clear hi)))
                   go_ret
                   exact ⟨by first | rfl | (simp [errW_none, errW_some] <;> rfl) | (simp [*, errW_none, errW_some] <;> rfl), by repeat (first | (with_reducible first | exact HB.out | apply below_alloc | apply pw_below_drewN | apply below_drew1) | exact HB.out)⟩
             ·rw [if_neg c57] at H
              have c57b0 : (t334 == t332) = false := beq_eq_false_iff_ne.mpr c57
              have c57b1 : (t334 != t332) = true := bne_iff_ne.mpr c57
              obtain rfl := Option.some.inj H
              obtain ⟨Ao82, co82, eo82⟩ := Kd.R_slice HO_13.out
              subst eo82
              go_wp2_with (first | ((with_reducible refine gate_callee (f := 63) rfl ?_); refine goesL_ (some 85) rfl rfl Try.func63 (by kernel_rfl) rfl #[.slice Ao82 t320.length co82, .int .i64 1] rfl (by (try simp only [List.map_toArray, List.map_cons, List.map_nil]); first | done | rfl | (simp only [List.length_drop, List.length_take]; rfl)) ?_; (with_reducible refine (laws_markSlotS.calls kj35 (fun k_ => some k_ = (.slice Ao82 t320.length co82 : Value).ownBlock) (.slice Ao82 t320.length co82) t320 1 t332 t333 w _ ?side1 ?side2 A51.out).mono ?_); (case side1 => repeat (first | (with_reducible first | exact HB.out | apply below_alloc | apply pw_below_drewN | apply below_drew1) | exact HB.out)); (case side2 => exact Kd.R_tight rfl HO_13.out); rintro e w83 ⟨rfl, hy0, hb, hkp⟩; refine ⟨_, rfl, ?_⟩; have n0_ := Aside0.mk (Kd.R_mono (ok' := fun k_ => some k_ ≠ (.slice Ao82 t320.length co82 : Value).ownBlock) (Kd.R_keptB (HO_10.out) hkp (fun k_ hk_ hs_ => (hk_) hs_)) (fun k_ hk_ => hk_.1)); have n1_ := Aside0.mk (Kd.R_reok rfl hy0 (fun k_ e_ => HO_13.out.1 k_ e_)); have n2_ := Aside0.mk (hb); clear HO_10; clear HO_13; clear HB; have HO_10 := n0_; have HO_13 := n1_; have HB := n2_; clear n0_ n1_ n2_; (try clear hb); (try clear hkp); (try clear hy0)) | ((with_reducible refine gate_callee (f := 64) rfl ?_); refine goesL_ (some 88) rfl rfl Try.func64 (by kernel_rfl) rfl #[.slice Ao82 t333.length co82, .int .i64 1] rfl (by (try simp only [List.map_toArray, List.map_cons, List.map_nil]); first | done | (rw [show t333.length = t320.length from (Kd.R_reads' HO_13.out).1.symm] <;> rfl) | rfl | (simp only [List.length_drop, List.length_take]; rfl)) ?_; (with_reducible refine (laws_heldSlotS.calls kj35 _ _ t333 1 t334 _ ?side1 ?side2 A52.out).mono ?_); (case side1 => repeat (first | exact (Kd.R_reads' HO_13.out).2.2 | (with_reducible refine Kd.C_alloc ?_ _) | (with_reducible refine Kd.C_drewN ?_ _) | (with_reducible refine Kd.C_drew ?_))); (case side2 => rw [show t333.length = t320.length from (Kd.R_reads' HO_13.out).1.symm]; exact (Kd.R_reads' HO_13.out).2.1); rintro e w84 ⟨rfl, hb⟩; refine ⟨_, rfl, ?_⟩; have n0_ := Aside0.mk (Kd.R_below (by (with_reducible repeat (first | apply Kd.R_alloc | apply Kd.R_drewN | apply Kd.R_drew)); exact HO_10.out) hb); have n1_ := Aside0.mk (Kd.R_below (by (with_reducible repeat (first | apply Kd.R_alloc | apply Kd.R_drewN | apply Kd.R_drew)); exact HO_13.out) hb); have n2_ := Aside0.mk (below_step (by repeat (first | (with_reducible first | exact HB.out | apply below_alloc | apply pw_below_drewN | apply below_drew1) | exact HB.out)) hb); clear HO_10; clear HO_13; clear HB; have HO_10 := n0_; have HO_13 := n1_; have HB := n2_; clear n0_ n1_ n2_; (try clear hb); (try clear hb2); (try clear hk); (try clear hi)))
              go_ret
              exact ⟨by first | rfl | (simp [errW_none, errW_some] <;> rfl) | (simp [*, errW_none, errW_some] <;> rfl), by repeat (first | (with_reducible first | exact HB.out | apply below_alloc | apply pw_below_drewN | apply below_drew1) | exact HB.out)⟩
        ·replace c34 := Bool.eq_false_iff.mpr c34
         subst c34
         have H1 : (some false) = some r := by rw [if_neg (show ¬ (false = true) by decide)] at H; exact H
         clear H
         have H := H1
         clear H1
         obtain rfl := Option.some.inj H
         go_wp2_with (first | ((with_reducible refine gate_callee (f := 17) rfl ?_); refine goesL_ (some 64) rfl rfl Try.func17 (by kernel_rfl) rfl #[.slice A0 l0.length c0] rfl (by (try simp only [List.map_toArray, List.map_cons, List.map_nil]); first | done | rfl | (simp only [List.length_drop, List.length_take]; rfl)) ?_; (with_reducible refine (laws_toSlotS.calls kj14 _ _ l0 t325 _ ?side1 ?side2 A32.out).mono ?_); (case side1 => repeat (first | exact (Kd.C_below HR0.out HB.out) | (with_reducible refine Kd.C_alloc ?_ _) | (with_reducible refine Kd.C_drewN ?_ _) | (with_reducible refine Kd.C_drew ?_))); (case side2 => exact HC0.out); rintro e w85 ⟨v326, rfl, ho0, hb⟩; refine ⟨_, rfl, ?_⟩; have n0_ := Aside0.mk (Kd.R_elder' (by (with_reducible repeat (first | apply Kd.R_alloc | apply Kd.R_drewN | apply Kd.R_drew)); exact HO_10.out) (Kd.R_base ho0) hb); have n1_ := Aside0.mk (Kd.R_elder' (by (with_reducible repeat (first | apply Kd.R_alloc | apply Kd.R_drewN | apply Kd.R_drew)); exact HO_12.out) (Kd.R_base ho0) hb); have n2_ := Aside0.mk (Kd.R_elder' (by (with_reducible repeat (first | apply Kd.R_alloc | apply Kd.R_drewN | apply Kd.R_drew)); exact HO_13.out) (Kd.R_base ho0) hb); have n3_ := Aside0.mk (Kd.R_lower (Kd.R_new' (Kd.R_new' (Kd.R_new' ho0 (Kd.R_lt (by (with_reducible repeat (first | apply Kd.R_alloc | apply Kd.R_drewN | apply Kd.R_drew)); exact HO_10.out))) (Kd.R_lt (by (with_reducible repeat (first | apply Kd.R_alloc | apply Kd.R_drewN | apply Kd.R_drew)); exact HO_12.out))) (Kd.R_lt (by (with_reducible repeat (first | apply Kd.R_alloc | apply Kd.R_drewN | apply Kd.R_drew)); exact HO_13.out))) (below_size (by repeat (first | (with_reducible first | exact HB.out | apply below_alloc | apply pw_below_drewN | apply below_drew1) | exact HB.out)))); have n4_ := Aside0.mk (below_step (by repeat (first | (with_reducible first | exact HB.out | apply below_alloc | apply pw_below_drewN | apply below_drew1) | exact HB.out)) hb); clear HO_10; clear HO_12; clear HO_13; clear HB; have HO_10 := n0_; have HO_12 := n1_; have HO_13 := n2_; have HO327 := n3_; have HB := n4_; clear n0_ n1_ n2_ n3_ n4_; (try clear hb); (try clear hb2); (try clear hk); (try clear hi); (try clear ho0); obtain ⟨Ao86, co86, eo86⟩ := Kd.R_slice HO327.out; subst eo86) | ((with_reducible refine gate_callee (f := 19) rfl ?_); refine goesL_ (some 65) rfl rfl Try.func19 (by kernel_rfl) rfl #[.slice Ao21 t317.length co21, .slice Ao86 t325.length co86] rfl (by (try simp only [List.map_toArray, List.map_cons, List.map_nil]); first | done | rfl | (simp only [List.length_drop, List.length_take]; rfl)) ?_; (with_reducible refine (laws_eqSlotS.calls kj14 _ _ t317 _ _ t325 false _ ?side1 ?side2 ?side3 ?side4 A33.out).mono ?_); (case side1 => repeat (first | exact (Kd.R_reads' HO_12.out).2.2 | (with_reducible refine Kd.C_alloc ?_ _) | (with_reducible refine Kd.C_drewN ?_ _) | (with_reducible refine Kd.C_drew ?_))); (case side2 => exact (Kd.R_reads' HO_12.out).2.1); (case side3 => repeat (first | exact (Kd.R_reads' HO327.out).2.2 | (with_reducible refine Kd.C_alloc ?_ _) | (with_reducible refine Kd.C_drewN ?_ _) | (with_reducible refine Kd.C_drew ?_))); (case side4 => exact (Kd.R_reads' HO327.out).2.1); rintro e w87 ⟨rfl, hb⟩; refine ⟨_, rfl, ?_⟩; have n0_ := Aside0.mk (Kd.R_below (by (with_reducible repeat (first | apply Kd.R_alloc | apply Kd.R_drewN | apply Kd.R_drew)); exact HO_10.out) hb); have n1_ := Aside0.mk (Kd.R_below (by (with_reducible repeat (first | apply Kd.R_alloc | apply Kd.R_drewN | apply Kd.R_drew)); exact HO_12.out) hb); have n2_ := Aside0.mk (Kd.R_below (by (with_reducible repeat (first | apply Kd.R_alloc | apply Kd.R_drewN | apply Kd.R_drew)); exact HO_13.out) hb); have n3_ := Aside0.mk (Kd.R_below (by (with_reducible repeat (first | apply Kd.R_alloc | apply Kd.R_drewN | apply Kd.R_drew)); exact HO327.out) hb); have n4_ := Aside0.mk (below_step (by repeat (first | (with_reducible first | exact HB.out | apply below_alloc | apply pw_below_drewN | apply below_drew1) | exact HB.out)) hb); clear HO_10; clear HO_12; clear HO_13; clear HO327; clear HB; have HO_10 := n0_; have HO_12 := n1_; have HO_13 := n2_; have HO327 := n3_; have HB := n4_; clear n0_ n1_ n2_ n3_ n4_; (try clear hb); (try clear hb2); (try clear hk); (try clear hi)))
         go_ret
         exact ⟨by first | rfl | (simp [errW_none, errW_some] <;> rfl) | (simp [*, errW_none, errW_some] <;> rfl), by repeat (first | (with_reducible first | exact HB.out | apply below_alloc | apply pw_below_drewN | apply below_drew1) | exact HB.out)⟩
end Go.Proofs.Ytfajabboibcgpaa.PR
end
section
namespace Go.Proofs.Ytfajabboibcgpaa.PR
open Go.RowKit Go.Proofs.YtfajabboibcgpaaW.PrintWords Go.Proofs.YtfajabboibcgpaaW.PrintLast Go.Proofs.YtfajabboibcgpaaW.PrintMore
attribute [local go_sem] max2_int min2_int max_two min_two max_three min_three max_four min_four   -- for this text's walks alone
set_option linter.unusedVariables false
set_option linter.unusedSimpArgs false
end Go.Proofs.Ytfajabboibcgpaa.PR
end
section
namespace Go.Proofs.Ytfajabboibcgpaa.PBR
open Go.RowKit Go.Proofs.YtfajabboibcgpaaW.PrintWords Go.Proofs.YtfajabboibcgpaaW.PrintLast Go.Proofs.YtfajabboibcgpaaW.PrintMore
set_option linter.unusedVariables false
theorem ev_pos {α : Type} {c : Prop} [Decidable c] {f g : Nat → Option α} {r : α} (hc : c) (h : Ev f r) : Ev (fun k => if c then f k else g k) r := by
  simp only [if_pos hc]; exact h
theorem ev_neg {α : Type} {c : Prop} [Decidable c] {f g : Nat → Option α} {r : α} (hc : ¬ c) (h : Ev g r) : Ev (fun k => if c then f k else g k) r := by
  simp only [if_neg hc]; exact h
theorem ev_bind {α β : Type} {g : Nat → Option α} {f : Nat → α → Option β} {a : α} {r : β} (h : Ev g a) (k : Ev (fun n => f n a) r) : Ev (fun n => (g n).bind (f n)) r := Ev.bind h k
theorem ev_const {α β : Type} {o : Option α} {f : Nat → α → Option β} {a : α} {r : β} (h : o = some a) (k : Ev (fun n => f n a) r) : Ev (fun n => o.bind (f n)) r := by
  subst h; exact k
theorem ev_of_eq {α : Type} {o : Option α} {r : α} (h : o = some r) : Ev (fun _ => o) r := by subst h; exact Ev.now r
theorem ev_eq {α : Type} {f : Nat → Option α} {r r' : α} (h : Ev f r) (e : r = r') : Ev f r' := e ▸ h
theorem w64 {x : Int} (h0 : -9223372036854775808 ≤ x) (h1 : x ≤ 9223372036854775807) : wrap64 x = x := by
  unfold wrap64; omega
theorem ba_ext {a b : ByteArray} (h : a.toList = b.toList) : a = b := by
  rw [ByteArray.toList_eq, ByteArray.toList_eq] at h
  have h' : a.data = b.data := Array.toList_inj.mp h
  cases a; cases b; simp_all
theorem ba_iff {a b : ByteArray} : a.toList = b.toList ↔ a = b := ⟨ba_ext, fun h => by rw [h]⟩
theorem ba_beq {a b : ByteArray} : (a.toList == b.toList) = decide (a = b) := by
  by_cases h : a = b
  · subst h; simp
  · simp [h, ba_iff]
theorem size_toList (s : ByteArray) : s.toList.length = s.size := by rw [ByteArray.toList_eq]; exact data_length s
theorem bt_get (s : ByteArray) (i : Nat) (h : i < s.size) : bt s (i : Int) = ((s.toList.getD i 0).toNat : Int) := by
  rw [ByteArray.toList_eq]
  unfold bt
  rw [dif_pos (by simpa using h)]
  have h' : i < s.data.toList.length := by rw [data_length]; exact h
  simp [List.getD_eq_getElem?_getD, List.getElem?_eq_getElem h']
  rfl
end Go.Proofs.Ytfajabboibcgpaa.PBR
end
section
namespace Go.Proofs.Ytfajabboibcgpaa.PDR
open Go.RowKit Go.Proofs.YtfajabboibcgpaaW.PrintWords Go.Proofs.YtfajabboibcgpaaW.PrintLast Go.Proofs.YtfajabboibcgpaaW.PrintMore Go.Proofs.Ytfajabboibcgpaa.PBR Go.Proofs.Ytfajabboibcgpaa.PR
set_option linter.unusedVariables false
def dstep (p : Int × Int) (c : UInt8) : Int × Int := ((p.1 + (c.toNat : Int)) % 65521, (p.2 + (p.1 + (c.toNat : Int)) % 65521) % 65521)
def dfold (p : Int × Int) (l : List UInt8) : Int × Int := l.foldl dstep p
def InP (p : Int × Int) : Prop := 0 ≤ p.1 ∧ p.1 < 65521 ∧ 0 ≤ p.2 ∧ p.2 < 65521
theorem dstep_in {p : Int × Int} {c : UInt8} : InP (dstep p c) := by
  unfold InP dstep; refine ⟨?_, ?_, ?_, ?_⟩ <;> simp only <;> omega
theorem dfold_in {p : Int × Int} (h : InP p) (l : List UInt8) : InP (dfold p l) := by
  induction l generalizing p with
  | nil => exact h
  | cons c l ih => exact ih dstep_in
def four (p : Int × Int) : ByteArray := strOfNums [p.2 / 256 % 256, p.2 % 256, p.1 / 256 % 256, p.1 % 256]
def dig (kind : Int) (s : ByteArray) : ByteArray := four (dfold (kind + 1, kind + 1) s.toList)
theorem drop_at (l : List UInt8) (i : Nat) (h : i < l.length) : l.drop i = l.getD i 0 :: l.drop (i + 1) := by
  rw [List.drop_eq_getElem_cons h]; simp [List.getD_eq_getElem?_getD, List.getElem?_eq_getElem h]
theorem step_arith {A B : Int} {c : Nat} (hA : 0 ≤ A ∧ A < 65521 ∧ 0 ≤ B ∧ B < 65521) (hc : c < 256) :
    Int.tmod (wrap64 (A + wrap64 (c : Int))) 65521 = (A + (c : Int)) % 65521 ∧ Int.tmod (wrap64 (B + (A + (c : Int)) % 65521)) 65521 = (B + (A + (c : Int)) % 65521) % 65521 := by
  have h1 : wrap64 (c : Int) = c := w64 (by omega) (by omega)
  have h2 : wrap64 (A + c) = A + c := w64 (by omega) (by omega)
  have h3 : wrap64 (B + (A + (c : Int)) % 65521) = B + (A + (c : Int)) % 65521 := w64 (by omega) (by omega)
  rw [h1, h2, h3, Int.tmod_eq_emod_of_nonneg (by omega), Int.tmod_eq_emod_of_nonneg (by omega)]
  exact ⟨rfl, rfl⟩
theorem feed_spec (s : ByteArray) (hs : s.size ≤ 1000000000000) (L : Int) (hL : 0 ≤ L ∧ L ≤ 1000000000000) : ∀ (d i : Nat) (A B : Int), i + d = s.size → InP (A, B) →
    Ev (fun k => spec_l1Feed.l0 k s (i : Int) A B L) ((dfold (A, B) (s.toList.drop i)).1, (dfold (A, B) (s.toList.drop i)).2, L + s.size) := by
  intro d
  induction d with
  | zero =>
    intro i A B hi hp
    refine Ev.step (f := fun _ => some (A, B, wrap64 (L + (s.size : Int)))) (fun k => ?_) ?_
    · simp only [spec_l1Feed.l0]; rw [if_neg (by omega)]
    · rw [List.drop_eq_nil_of_le (by rw [size_toList]; omega)]
      rw [w64 (by omega) (by omega)]
      exact Ev.now _
  | succ d ih =>
    intro i A B hi hp
    have hlt : i < s.size := by omega
    have hb := bt_get s i hlt
    have hc : (s.toList.getD i 0).toNat < 256 := UInt8.toNat_lt _
    have ha := step_arith (A := A) (B := B) hp hc
    refine Ev.step (f := fun k => spec_l1Feed.l0 k s ((i + 1 : Nat) : Int) (dstep (A, B) (s.toList.getD i 0)).1 (dstep (A, B) (s.toList.getD i 0)).2 L) (fun k => ?_) ?_
    · simp only [spec_l1Feed.l0]; rw [if_pos (by omega), if_pos (by omega), hb, ha.1, ha.2, w64 (x := (i : Int) + 1) (by omega) (by omega)]
      simp only [dstep]
      congr 1
    · rw [drop_at _ _ (by rw [size_toList]; exact hlt)]
      exact ih (i + 1) _ _ (by omega) dstep_in
theorem feed_impl (s : ByteArray) (hs : s.size ≤ 1000000000000) (L : Int) (hL : 0 ≤ L ∧ L ≤ 1000000000000) : ∀ (d i : Nat) (A B : Int), i + d = s.size → InP (A, B) →
    Ev (fun k => impl_Mix_feed.l0 k s (s.size : Int) (i : Int) A B L) ((dfold (A, B) (s.toList.drop i)).1, (dfold (A, B) (s.toList.drop i)).2, L + s.size) := by
  intro d
  induction d with
  | zero =>
    intro i A B hi hp
    refine Ev.step (f := fun _ => some (A, B, wrap64 (L + (s.size : Int)))) (fun k => ?_) ?_
    · simp only [impl_Mix_feed.l0]; rw [if_neg (by omega)]
    · rw [List.drop_eq_nil_of_le (by rw [size_toList]; omega)]
      rw [w64 (by omega) (by omega)]
      exact Ev.now _
  | succ d ih =>
    intro i A B hi hp
    have hlt : i < s.size := by omega
    have hb := bt_get s i hlt
    have hc : (s.toList.getD i 0).toNat < 256 := UInt8.toNat_lt _
    have ha := step_arith (A := A) (B := B) hp hc
    refine Ev.step (f := fun k => impl_Mix_feed.l0 k s (s.size : Int) ((i + 1 : Nat) : Int) (dstep (A, B) (s.toList.getD i 0)).1 (dstep (A, B) (s.toList.getD i 0)).2 L) (fun k => ?_) ?_
    · simp only [impl_Mix_feed.l0]; rw [if_pos (by omega), if_pos (by omega), if_pos (by omega), hb, ha.1, ha.2, w64 (x := (i : Int) + 1) (by omega) (by omega)]
      simp only [dstep]
      congr 1
    · rw [drop_at _ _ (by rw [size_toList]; exact hlt)]
      exact ih (i + 1) _ _ (by omega) dstep_in
def Kd_ (c : Int) : Prop := 97 ≤ c ∧ c ≤ 122
theorem digS (kind : Int) (hk : Kd_ kind) (s : ByteArray) (hs : s.size ≤ 1000000000000) : Ev (fun k => spec_l1Digest.f k kind s) (dig kind s) := by
  obtain ⟨h0, h1⟩ := hk
  have e1 : spec_NewMix.f kind = some (kind + 1, kind + 1, 0, true) := by
    unfold spec_NewMix.f spec_l1Kind.f
    rw [if_pos (by omega)]
    simp only [Option.bind_some, decide_eq_true h1, if_true]
    rw [w64 (x := kind) (by omega) (by omega), w64 (by omega) (by omega), Int.add_comm]
  have hp : InP (kind + 1, kind + 1) := by unfold InP; refine ⟨?_, ?_, ?_, ?_⟩ <;> simp only <;> omega
  obtain ⟨K, h⟩ := feed_spec s hs 0 (by omega) s.size 0 (kind + 1) (kind + 1) (by omega) hp
  refine ⟨K, fun k hk => ?_⟩
  have h' := h k hk
  dsimp only at h'
  rw [show ((0 : Nat) : Int) = 0 from rfl] at h'
  unfold spec_l1Digest.f spec_l1Feed.f spec_l1End.f
  simp only [e1, Option.bind_some]
  rw [h']
  simp only [Option.bind_some, List.drop_zero]
  rfl
theorem digI (kind : Int) (hk : Kd_ kind) (s : ByteArray) (hs : s.size ≤ 1000000000000) : Ev (fun k => impl_digest.f k kind s) (dig kind s) := by
  obtain ⟨h0, h1⟩ := hk
  have e1 : impl_newMix.f kind = some (kind + 1, kind + 1, 0) := by
    unfold impl_newMix.f
    rw [w64 (x := kind) (by omega) (by omega), w64 (by omega) (by omega)]
  have hp : InP (kind + 1, kind + 1) := by unfold InP; refine ⟨?_, ?_, ?_, ?_⟩ <;> simp only <;> omega
  obtain ⟨K, h⟩ := feed_impl s hs 0 (by omega) s.size 0 (kind + 1) (kind + 1) (by omega) hp
  refine ⟨K, fun k hk => ?_⟩
  have h' := h k hk
  dsimp only at h'
  rw [show ((0 : Nat) : Int) = 0 from rfl] at h'
  have hq := dfold_in hp s.toList
  unfold impl_digest.f impl_Mix_feed.f impl_Mix_end.f
  simp only [e1, Option.bind_some]
  rw [h']
  simp only [Option.bind_some, List.drop_zero]
  unfold dig four
  generalize dfold (kind + 1, kind + 1) s.toList = p at hq ⊢
  obtain ⟨q0, q1, q2, q3⟩ := hq
  rw [Int.tdiv_eq_ediv_of_nonneg q2, Int.tdiv_eq_ediv_of_nonneg q0, Int.tmod_eq_emod_of_nonneg q2, Int.tmod_eq_emod_of_nonneg q0, w64 (x := p.2 / 256) (by omega) (by omega), w64 (x := p.1 / 256) (by omega) (by omega)]
  rw [Int.emod_emod_of_dvd p.2 (Int.dvd_refl _), Int.emod_emod_of_dvd p.1 (Int.dvd_refl _)]
def one (n : Int) : ByteArray := strOfNums [n % 256]
theorem one_size (n : Int) : (one n).size = 1 := by unfold one; rw [strOfNums_size]; rfl
theorem oneI (n : Int) : impl_oneByte.f n = some (one n) := rfl
end Go.Proofs.Ytfajabboibcgpaa.PDR
end
section
namespace Go.Proofs.Ytfajabboibcgpaa.PKR
open Go.RowKit Go.Proofs.YtfajabboibcgpaaW.PrintWords Go.Proofs.YtfajabboibcgpaaW.PrintLast Go.Proofs.YtfajabboibcgpaaW.PrintMore Go.Proofs.Ytfajabboibcgpaa.PBR Go.Proofs.Ytfajabboibcgpaa.PDR Go.Proofs.Ytfajabboibcgpaa.PR
set_option linter.unusedVariables false
theorem app_size (a b : ByteArray) : (a ++ b).size = a.size + b.size := ByteArray.size_append
end Go.Proofs.Ytfajabboibcgpaa.PKR
end
section
namespace Go.Proofs.Ytfajabboibcgpaa.PLR
open Go.RowKit Go.Proofs.YtfajabboibcgpaaW.PrintWords Go.Proofs.YtfajabboibcgpaaW.PrintLast Go.Proofs.YtfajabboibcgpaaW.PrintMore Go.Proofs.Ytfajabboibcgpaa.PBR Go.Proofs.Ytfajabboibcgpaa.PR
set_option linter.unusedVariables false
theorem rdOf_at {α : Type} (d : α) (l : List α) (i : Nat) (h : i < l.length) : rdOf d l (i : Int) = l[i] := by
  simp [rdOf, List.getD_eq_getElem?_getD, List.getElem?_eq_getElem h]
def filled {α β : Type} (f : α → β) (z : β) (l : List α) (i : Nat) : List β := (l.take i).map f ++ List.replicate (l.length - i) z
theorem filled_length {α β : Type} (f : α → β) (z : β) (l : List α) (i : Nat) (h : i ≤ l.length) : (filled f z l i).length = l.length := by
  simp [filled, Nat.min_eq_left h]; omega
theorem filled_zero {α β : Type} (f : α → β) (z : β) (l : List α) : filled f z l 0 = List.replicate l.length z := by simp [filled]
theorem filled_all {α β : Type} (f : α → β) (z : β) (l : List α) : filled f z l l.length = l.map f := by simp [filled]
theorem filled_set {α β : Type} (f : α → β) (z : β) (l : List α) (i : Nat) (h : i < l.length) : (filled f z l i).set i (f l[i]) = filled f z l (i + 1) := by
  unfold filled
  rw [List.take_succ_eq_append_getElem h, List.map_append, List.map_cons, List.map_nil]
  have hl : ((l.take i).map f).length = i := by simp [Nat.min_eq_left (Nat.le_of_lt h)]
  obtain ⟨m, hm⟩ : ∃ m, l.length - i = m + 1 := ⟨l.length - i - 1, by omega⟩
  rw [hm, List.replicate_succ, List.set_append_right _ _ (by omega), hl, Nat.sub_self, List.set_cons_zero, show l.length - (i + 1) = m by omega]
  simp
def szL : List ByteArray → Nat
  | [] => 0
  | s :: l => s.size + szL l
def total (l : List ByteArray) : Nat := l.length + szL l
theorem mark_go : ∀ (m n : Nat) (out : ByteArray), n < 10 ^ m → out.size + m ≤ 1000 → n ≤ 1000000000000000000 → ∃ t, Ev (fun k => laws_markText.l0 k (n : Int) out) t := by
  intro m
  induction m with
  | zero =>
    intro n out hn ho _
    have : n = 0 := by simpa using hn
    subst this
    refine ⟨(⟨#[109]⟩ : ByteArray) ++ out, Ev.step (f := fun _ => some ((⟨#[109]⟩ : ByteArray) ++ out)) (fun k => ?_) (Ev.now _)⟩
    simp only [laws_markText.l0]
    rw [if_neg (by omega), if_pos (by omega)]
  | succ m ih =>
    intro n out hn ho hb
    by_cases h0 : n = 0
    · subst h0
      refine ⟨(⟨#[109]⟩ : ByteArray) ++ out, Ev.step (f := fun _ => some ((⟨#[109]⟩ : ByteArray) ++ out)) (fun k => ?_) (Ev.now _)⟩
      simp only [laws_markText.l0]
      rw [if_neg (by omega), if_pos (by omega)]
    · have hs : ∀ x : Int, (strOfNums [x]).size = 1 := fun x => by rw [strOfNums_size]; rfl
      obtain ⟨t, ht⟩ := ih (n / 10) (strOfNums [(wrap64 (48 + (Int.tmod (n : Int) 10))) % 256] ++ out) (by rw [Nat.pow_succ] at hn; omega) (by rw [ByteArray.size_append, hs]; omega) (by omega)
      refine ⟨t, Ev.step (f := fun k => laws_markText.l0 k ((n / 10 : Nat) : Int) (strOfNums [(wrap64 (48 + (Int.tmod (n : Int) 10))) % 256] ++ out)) (fun k => ?_) ht⟩
      simp only [laws_markText.l0]
      rw [if_pos (by omega)]
      simp only [Option.bind_some]
      rw [if_pos (by rw [hs]; omega), Int.tdiv_eq_ediv_of_nonneg (by omega), w64 (x := (n : Int) / 10) (by omega) (by omega)]
      rfl
theorem mark_any (n : Nat) (hn : n ≤ 1000000000000000000) : ∃ t, Ev (fun k => laws_markText.f k (n : Int)) t := by
  by_cases h0 : n = 0
  · subst h0
    exact ⟨_, Ev.congr (f := fun _ => some (⟨#[109, 48]⟩ : ByteArray)) (fun k => by simp [laws_markText.f]) (Ev.now _)⟩
  · obtain ⟨t, ht⟩ := mark_go 19 n ⟨#[]⟩ (by omega) (by simp [ByteArray.size]) hn
    exact ⟨t, Ev.congr (fun k => by simp only [laws_markText.f]; rw [if_neg (by omega)]) ht⟩
noncomputable def mk_ (n : Nat) : ByteArray := if h : n ≤ 1000000000000000000 then Classical.choose (mark_any n h) else ⟨#[]⟩
theorem markT (n : Nat) (hn : n ≤ 1000000000000000000) : Ev (fun k => laws_markText.f k (n : Int)) (mk_ n) := by
  unfold mk_
  rw [dif_pos hn]
  exact Classical.choose_spec (mark_any n hn)
end Go.Proofs.Ytfajabboibcgpaa.PLR
end
section
namespace Go.Proofs.Ytfajabboibcgpaa.PSR
open Go.RowKit Go.Proofs.YtfajabboibcgpaaW.PrintWords Go.Proofs.YtfajabboibcgpaaW.PrintLast Go.Proofs.YtfajabboibcgpaaW.PrintMore Go.Proofs.Ytfajabboibcgpaa.PBR Go.Proofs.Ytfajabboibcgpaa.PDR Go.Proofs.Ytfajabboibcgpaa.PKR Go.Proofs.Ytfajabboibcgpaa.PLR Go.Proofs.Ytfajabboibcgpaa.PR
set_option linter.unusedVariables false
end Go.Proofs.Ytfajabboibcgpaa.PSR
end
section
namespace Go.Proofs.Ytfajabboibcgpaa.PTR
open Go.RowKit Go.Proofs.YtfajabboibcgpaaW.PrintWords Go.Proofs.YtfajabboibcgpaaW.PrintLast Go.Proofs.YtfajabboibcgpaaW.PrintMore Go.Proofs.Ytfajabboibcgpaa.PBR Go.Proofs.Ytfajabboibcgpaa.PDR Go.Proofs.Ytfajabboibcgpaa.PKR Go.Proofs.Ytfajabboibcgpaa.PLR Go.Proofs.Ytfajabboibcgpaa.PSR Go.Proofs.Ytfajabboibcgpaa.PR
set_option linter.unusedVariables false
theorem inS (a b c : Int) : spec_l1In.f a b c = some (decide (b ≤ a ∧ a ≤ c)) := by
  unfold spec_l1In.f
  by_cases h : a ≥ b
  · rw [if_pos h]; simp [show b ≤ a from h]
  · rw [if_neg h]; simp [show ¬ b ≤ a from h]
theorem inI (a b c : Int) : impl_within.f a b c = some (decide (b ≤ a ∧ a ≤ c)) := by
  unfold impl_within.f
  by_cases h : a ≥ b
  · rw [if_pos h]; simp [show b ≤ a from h]
  · rw [if_neg h]; simp [show ¬ b ≤ a from h]
end Go.Proofs.Ytfajabboibcgpaa.PTR
end
section
namespace Go.Proofs.Ytfajabboibcgpaa.PUR
open Go.RowKit Go.Proofs.YtfajabboibcgpaaW.PrintWords Go.Proofs.YtfajabboibcgpaaW.PrintLast Go.Proofs.YtfajabboibcgpaaW.PrintMore Go.Proofs.Ytfajabboibcgpaa.PBR Go.Proofs.Ytfajabboibcgpaa.PDR Go.Proofs.Ytfajabboibcgpaa.PKR Go.Proofs.Ytfajabboibcgpaa.PLR Go.Proofs.Ytfajabboibcgpaa.PSR Go.Proofs.Ytfajabboibcgpaa.PTR Go.Proofs.Ytfajabboibcgpaa.PR
set_option linter.unusedVariables false
theorem idx_any {α : Type} (l : List α) (rf : List α → Int → α) (hrf : ∀ i (h : i < l.length), rf l (i : Int) = l[i]) (L0 : Nat → List α → Int → Int → Option Int) (cl : Nat → α → Option Bool) (p : α → Bool)
    (hstep : ∀ k n i, L0 (k + 1) l n i = if i < n then (if 0 ≤ i then (if i < (l.length : Int) then ((cl k (rf l i)).bind fun t => if t = true then some i else L0 k l n (wrap64 (i + 1))) else none) else none) else some (-1))
    (hp : ∀ x ∈ l, Ev (fun k => cl k x) (p x)) (hl : l.length ≤ 4000000000000000000) : ∃ r, Ev (fun k => L0 k l (l.length : Int) 0) r ∧ decide (r ≥ 0) = l.any p := by
  have key : ∀ (d i : Nat), i + d = l.length → ∃ r, Ev (fun k => L0 k l (l.length : Int) (i : Int)) r ∧ decide (r ≥ 0) = (l.drop i).any p := by
    intro d
    induction d with
    | zero =>
      intro i hi
      refine ⟨-1, Ev.step (f := fun _ => some (-1)) (fun k => ?_) (Ev.now _), ?_⟩
      · rw [hstep, if_neg (by omega)]
      · rw [List.drop_eq_nil_of_le (by omega)]; rfl
    | succ d ih =>
      intro i hi
      have hlt : i < l.length := by omega
      have hpx := hp _ (List.getElem_mem hlt)
      rw [List.drop_eq_getElem_cons hlt, List.any_cons]
      have st : ∀ k, L0 (k + 1) l (l.length : Int) (i : Int) = (cl k l[i]).bind fun t => if t = true then some (i : Int) else L0 k l (l.length : Int) ((i + 1 : Nat) : Int) := by
        intro k
        rw [hstep, if_pos (by omega), if_pos (by omega), if_pos (by omega), hrf i hlt, w64 (x := (i : Int) + 1) (by omega) (by omega)]
        rfl
      cases hb : p l[i] with
      | true =>
        rw [hb] at hpx
        refine ⟨(i : Int), Ev.step (f := fun k => (cl k l[i]).bind fun t => if t = true then some (i : Int) else L0 k l (l.length : Int) ((i + 1 : Nat) : Int)) st (ev_bind hpx (ev_pos rfl (Ev.now _))), ?_⟩
        simp only [Bool.true_or]
        exact decide_eq_true (by omega)
      | false =>
        rw [hb] at hpx
        obtain ⟨r, hr, e⟩ := ih (i + 1) (by omega)
        refine ⟨r, Ev.step (f := fun k => (cl k l[i]).bind fun t => if t = true then some (i : Int) else L0 k l (l.length : Int) ((i + 1 : Nat) : Int)) st (ev_bind hpx (ev_neg (by simp) hr)), ?_⟩
        rw [Bool.false_or]; exact e
  obtain ⟨r, hr, e⟩ := key l.length 0 (by omega)
  exact ⟨r, hr, by rw [e, List.drop_zero]⟩
theorem isDigI (s : ByteArray) : impl_isDigest.f s = some (decide (s.size = 4)) := by
  unfold impl_isDigest.f
  refine congrArg some ?_
  by_cases h : s.size = 4
  · rw [decide_eq_true h, h]; rfl
  · rw [decide_eq_false h]; exact beq_eq_false_iff_ne.mpr (by omega)
end Go.Proofs.Ytfajabboibcgpaa.PUR
end
section
namespace Go.Proofs.Ytfajabboibcgpaa.PGR
open Go.RowKit Go.Proofs.YtfajabboibcgpaaW.PrintWords Go.Proofs.YtfajabboibcgpaaW.PrintLast Go.Proofs.YtfajabboibcgpaaW.PrintMore Go.Proofs.Ytfajabboibcgpaa.PBR Go.Proofs.Ytfajabboibcgpaa.PLR
set_option linter.unusedVariables false
theorem loop_up {β : Type} {r : β} (n : Nat) (S : Nat → Nat → Option β) (hend : Ev (S n) r) (hround : ∀ i, i < n → Ev (S (i + 1)) r → Ev (S i) r) : Ev (S 0) r := by
  have key : ∀ d i, i + d = n → Ev (S i) r := by
    intro d
    induction d with
    | zero => intro i hi; rw [show i = n by omega]; exact hend
    | succ d ih => intro i hi; exact hround i (by omega) (ih (i + 1) (by omega))
  exact key n 0 (by omega)
def wsum {α : Type} (wt : α → Nat) : List α → Nat
  | [] => 0
  | x :: l => wt x + wsum wt l
def left (R : Int) (w : Nat) : Int := if (w : Int) ≤ R then R - w else -1
theorem left_yes {R : Int} {w : Nat} (h : (w : Int) ≤ R) : left R w = R - w := if_pos h
theorem left_no {R : Int} {w : Nat} (h : ¬ (w : Int) ≤ R) : left R w = -1 := if_neg h
theorem left_add {R : Int} {a b : Nat} (h : (a : Int) ≤ R) : left (R - a) b = left R (a + b) := by
  unfold left
  by_cases hb : (b : Int) ≤ R - a
  · rw [if_pos hb, if_pos (by omega)]; omega
  · rw [if_neg hb, if_neg (by omega)]
theorem sz_list {α : Type} (wt : α → Nat) (l : List α) (rf : List α → Int → α) (hrf : ∀ i (h : i < l.length), rf l (i : Int) = l[i]) (L0 : Nat → List α → Int → Int → Option Int) (F : Nat → List α → Int → Option Int) (e : Nat → α → Int → Option Int)
    (hstep : ∀ k R i, L0 (k + 1) l R i = if i < (l.length : Int) then (if 0 ≤ i then ((e k (rf l i) R).bind fun t => if t < 0 then some (-1) else L0 k l t (wrap64 (i + 1))) else none) else some R)
    (hF : ∀ k R, F k l R = if wrap64 (R - (l.length : Int)) < 0 then some (-1) else L0 k l (wrap64 (R - (l.length : Int))) 0)
    (he : ∀ x ∈ l, ∀ R, 0 ≤ R → R ≤ 1000000000000 → Ev (fun k => e k x R) (left R (wt x))) (hl : l.length ≤ 9223372036854775807) (R : Int) (h0 : 0 ≤ R) (h1 : R ≤ 1000000000) :
    Ev (fun k => F k l R) (left R (l.length + wsum wt l)) := by
  have key : ∀ (d i : Nat) (R : Int), i + d = l.length → 0 ≤ R → R ≤ 1000000000000 → l.length ≤ 1000000000000 → Ev (fun k => L0 k l R (i : Int)) (left R (wsum wt (l.drop i))) := by
    intro d
    induction d with
    | zero =>
      intro i R hi h0 h1 h2
      rw [List.drop_eq_nil_of_le (by omega)]
      refine Ev.step (f := fun _ => some R) (fun k => by rw [hstep, if_neg (by omega)]) ?_
      refine ev_eq (Ev.now R) ?_
      show R = left R 0
      unfold left
      rw [if_pos (by omega)]; omega
    | succ d ih =>
      intro i R hi h0 h1 h2
      have hlt : i < l.length := by omega
      have hx := he _ (List.getElem_mem hlt) R h0 h1
      rw [List.drop_eq_getElem_cons hlt, show wsum wt (l[i] :: l.drop (i + 1)) = wt l[i] + wsum wt (l.drop (i + 1)) from rfl]
      refine Ev.step (f := fun k => (e k l[i] R).bind fun t => if t < 0 then some (-1) else L0 k l t ((i + 1 : Nat) : Int)) (fun k => ?_) ?_
      · rw [hstep, if_pos (by omega), if_pos (by omega), hrf i hlt, w64 (x := (i : Int) + 1) (by omega) (by omega)]; rfl
      · refine ev_bind hx ?_
        by_cases hc : ((wt l[i] : Nat) : Int) ≤ R
        · rw [left_yes hc]
          refine ev_neg (by omega) ?_
          refine ev_eq (ih (i + 1) (R - wt l[i]) (by omega) (by omega) (by omega) h2) (left_add hc)
        · rw [left_no hc]
          refine ev_pos (by omega) (ev_eq (Ev.now _) ?_)
          unfold left
          rw [if_neg (by omega)]
  by_cases hc : (l.length : Int) ≤ R
  · refine Ev.congr (f := fun k => L0 k l (R - l.length) ((0 : Nat) : Int)) (fun k => ?_) ?_
    · rw [hF, w64 (x := R - (l.length : Int)) (by omega) (by omega), if_neg (by omega)]; rfl
    · refine ev_eq (key l.length 0 (R - l.length) (by omega) (by omega) (by omega) (by omega)) ?_
      rw [List.drop_zero]; exact left_add hc
  · refine Ev.congr (f := fun _ => some (-1)) (fun k => ?_) (ev_eq (Ev.now _) ?_)
    · rw [hF, w64 (x := R - (l.length : Int)) (by omega) (by omega), if_pos (by omega)]
    · unfold left; rw [if_neg (by omega)]
theorem to_list {α β : Type} (f : α → β) (z : β) (l : List α) (L0 : Nat → List α → List β → Int → Option (List β)) (hl : l.length ≤ 2000000)
    (hend : ∀ k out, L0 (k + 1) l out (l.length : Int) = some out)
    (hround : ∀ i (h : i < l.length) (out : List β), out.length = l.length → ∀ r, Ev (fun k => L0 k l (out.set i (f l[i])) ((i + 1 : Nat) : Int)) r → Ev (fun k => L0 k l out (i : Int)) r) :
    Ev (fun k => L0 k l (List.replicate l.length z) 0) (l.map f) := by
  have h := loop_up (r := l.map f) l.length (fun i k => L0 k l (filled f z l i) (i : Int)) ?_ ?_
  · rw [← filled_zero f z l]; exact h
  · refine Ev.step (f := fun _ => some (l.map f)) (fun k => ?_) (Ev.now _)
    rw [hend, filled_all]
  · intro i hi h
    refine hround i hi _ (filled_length _ _ _ _ (by omega)) _ ?_
    rw [filled_set f z l i hi]
    exact h
theorem eq_list {α : Type} (l : List α) (L0 : Nat → List α → List α → Int → Option Bool) (F : Nat → List α → List α → Option Bool) (hend : ∀ k, L0 (k + 1) l l (l.length : Int) = some true)
    (hF : ∀ k, F k l l = L0 k l l 0) (hround : ∀ i (h : i < l.length), Ev (fun k => L0 k l l ((i + 1 : Nat) : Int)) true → Ev (fun k => L0 k l l (i : Int)) true) : Ev (fun k => F k l l) true := by
  refine Ev.congr (f := fun k => L0 k l l ((0 : Nat) : Int)) (fun k => hF k) ?_
  exact loop_up l.length (fun i k => L0 k l l (i : Int)) (Ev.step (f := fun _ => some true) (fun k => hend k) (Ev.now _)) (fun i hi h => hround i hi h)
end Go.Proofs.Ytfajabboibcgpaa.PGR
end
section
namespace Go.Proofs.Ytfajabboibcgpaa.PQR
open Go.RowKit Go.Proofs.YtfajabboibcgpaaW.PrintWords Go.Proofs.YtfajabboibcgpaaW.PrintLast Go.Proofs.YtfajabboibcgpaaW.PrintMore Go.Proofs.Ytfajabboibcgpaa.PBR Go.Proofs.Ytfajabboibcgpaa.PDR Go.Proofs.Ytfajabboibcgpaa.PKR Go.Proofs.Ytfajabboibcgpaa.PLR Go.Proofs.Ytfajabboibcgpaa.PSR Go.Proofs.Ytfajabboibcgpaa.PTR Go.Proofs.Ytfajabboibcgpaa.PUR Go.Proofs.Ytfajabboibcgpaa.PGR Go.Proofs.Ytfajabboibcgpaa.PR
set_option linter.unusedVariables false
def rowFrom : ByteArray → List ByteArray → ByteArray
  | acc, [] => acc
  | acc, s :: l => rowFrom (acc ++ (one (s.size : Int) ++ s)) l
def rowM (l : List ByteArray) : ByteArray := rowFrom ⟨#[]⟩ l
theorem rowFrom_size (l : List ByteArray) : ∀ acc, (rowFrom acc l).size = acc.size + total l := by
  induction l with
  | nil => intro acc; simp [rowFrom, total, szL]
  | cons s l ih =>
    intro acc
    have e : total (s :: l) = 1 + s.size + total l := by simp only [total, szL, List.length_cons]; omega
    rw [show rowFrom acc (s :: l) = rowFrom (acc ++ (one (s.size : Int) ++ s)) l from rfl, ih, app_size, app_size, one_size, e]; omega
theorem rowM_size (l : List ByteArray) : (rowM l).size = total l := by
  unfold rowM; rw [rowFrom_size]; exact Nat.zero_add _
theorem rowS (l : List ByteArray) (hl : total l ≤ 1000000000) : Ev (fun k => spec_l1Row.f k l) (rowM l) := by
  have hlen : l.length ≤ 1000000000 := by unfold total at hl; omega
  have key : ∀ (d i : Nat) (acc : ByteArray), i + d = l.length → acc.size + total (l.drop i) ≤ 2000000000 → Ev (fun k => spec_l1Row.l0 k acc l (l.length : Int) (i : Int)) (rowFrom acc (l.drop i)) := by
    intro d
    induction d with
    | zero =>
      intro i acc hi _
      rw [List.drop_eq_nil_of_le (by omega)]
      refine Ev.step (f := fun _ => some acc) (fun k => ?_) (Ev.now _)
      simp only [spec_l1Row.l0]; rw [if_neg (by omega)]
    | succ d ih =>
      intro i acc hi ha
      have hlt : i < l.length := by omega
      rw [List.drop_eq_getElem_cons hlt] at ha ⊢
      have e : total (l[i] :: l.drop (i + 1)) = 1 + l[i].size + total (l.drop (i + 1)) := by simp only [total, szL, List.length_cons]; omega
      rw [e] at ha
      refine Ev.step (f := fun k => spec_l1Row.l0 k (acc ++ (one (l[i].size : Int) ++ l[i])) l (l.length : Int) ((i + 1 : Nat) : Int)) (fun k => ?_) ?_
      · simp only [spec_l1Row.l0]
        rw [if_pos (by omega), if_pos (by omega), if_pos (by omega), rdOf_at _ _ _ hlt, w64 (x := (i : Int) + 1) (by omega) (by omega)]
        have e1 : (strOfNums [(l[i].size : Int) % 256]).size = 1 := by rw [strOfNums_size]; rfl
        simp only [Option.bind_some]
        rw [if_pos (by omega), if_pos (by rw [app_size]; omega)]
        rfl
      · exact ih (i + 1) _ (by omega) (by rw [app_size, app_size, one_size]; omega)
  exact key l.length 0 ⟨#[]⟩ (by omega) (by rw [List.drop_zero]; show 0 + total l ≤ _; omega)
theorem kindI (c : Int) : impl_isKind.f c = some (decide (97 ≤ c ∧ c ≤ 122)) := by
  unfold impl_isKind.f
  by_cases h : c ≥ 97
  · rw [if_pos h]; simp [show 97 ≤ c from h]
  · rw [if_neg h]; simp [show ¬ 97 ≤ c from h]
def digestOfM (kind : Int) (s : ByteArray) : ByteArray × Bool := if (97 ≤ kind ∧ kind ≤ 122) ∧ s.size ≤ 600 then (dig kind s, true) else (⟨#[]⟩, false)
theorem digestOfI (kind : Int) (s : ByteArray) : Ev (fun k => impl_DigestOf.f k kind s) (digestOfM kind s) := by
  unfold digestOfM
  by_cases h1 : 97 ≤ kind ∧ kind ≤ 122
  · by_cases h2 : s.size ≤ 600
    · rw [if_pos ⟨h1, h2⟩]
      exact ev_const (kindI kind) (ev_pos (decide_eq_true h1) (ev_neg (by omega) (ev_bind (digI kind h1 s (by omega)) (Ev.now _))))
    · rw [if_neg (fun h => h2 h.2)]
      exact ev_const (kindI kind) (ev_pos (decide_eq_true h1) (ev_pos (by omega) (Ev.now _)))
  · rw [if_neg (fun h => h1 h.1)]
    exact ev_const (kindI kind) (ev_neg (by simp [h1]) (Ev.now _))
def small (l : List ByteArray) : Bool := l.all fun s => decide (s.size ≤ 100)
def listDigestM (kind : Int) (l : List ByteArray) : ByteArray × Bool := if l.length ≤ 20 then (if small l = true then digestOfM kind (rowM l) else (⟨#[]⟩, false)) else (⟨#[]⟩, false)
theorem listDigestI (kind : Int) (l : List ByteArray) : Ev (fun k => impl_ListDigest.f k kind l) (listDigestM kind l) := by
  unfold listDigestM impl_ListDigest.f
  by_cases hl : l.length ≤ 20
  · rw [if_pos hl]
    refine ev_neg (by omega) ?_
    have key : ∀ (d i : Nat) (acc : ByteArray), i + d = l.length → acc.size ≤ 101 * i → Ev (fun k => impl_ListDigest.l0 k kind acc l (l.length : Int) (i : Int)) (if small (l.drop i) = true then digestOfM kind (rowFrom acc (l.drop i)) else (⟨#[]⟩, false)) := by
      intro d
      induction d with
      | zero =>
        intro i acc hi _
        rw [List.drop_eq_nil_of_le (by omega), show small [] = true from rfl, if_pos rfl]
        refine Ev.step (f := fun k => (impl_DigestOf.f k kind acc).bind fun b => some (b.1, b.2)) (fun k => ?_) (ev_bind (digestOfI kind acc) (Ev.now _))
        simp only [impl_ListDigest.l0]; rw [if_neg (by omega)]
      | succ d ih =>
        intro i acc hi ha
        have hlt : i < l.length := by omega
        rw [List.drop_eq_getElem_cons hlt]
        by_cases hs : l[i].size ≤ 100
        · have e0 : small (l[i] :: l.drop (i + 1)) = small (l.drop (i + 1)) := by simp only [small, List.all_cons, decide_eq_true hs, Bool.true_and]
          rw [e0]
          refine Ev.step (f := fun k => impl_ListDigest.l0 k kind (acc ++ (one (l[i].size : Int) ++ l[i])) l (l.length : Int) ((i + 1 : Nat) : Int)) (fun k => ?_) ?_
          · simp only [impl_ListDigest.l0]
            rw [if_pos (by omega), if_pos (by omega), if_pos (by omega), rdOf_at _ _ _ hlt, if_neg (by omega), oneI, w64 (x := (i : Int) + 1) (by omega) (by omega)]
            simp only [Option.bind_some]
            rw [if_pos (by rw [one_size]; omega), if_pos (by rw [app_size, one_size]; omega)]
            rfl
          · exact ih (i + 1) _ (by omega) (by rw [app_size, app_size, one_size]; omega)
        · have e0 : small (l[i] :: l.drop (i + 1)) = false := by simp only [small, List.all_cons, decide_eq_false hs, Bool.false_and]
          rw [e0, if_neg (by simp)]
          refine Ev.step (f := fun _ => some (⟨#[]⟩, false)) (fun k => ?_) (Ev.now _)
          simp only [impl_ListDigest.l0]
          rw [if_pos (by omega), if_pos (by omega), if_pos (by omega), rdOf_at _ _ _ hlt, if_pos (by omega)]
    have := key l.length 0 ⟨#[]⟩ (by omega) (by simp [ByteArray.size])
    rw [List.drop_zero] at this
    exact this
  · rw [if_neg hl]
    exact ev_pos (by omega) (Ev.now _)
def nameOk (s : ByteArray) : Bool := decide (1 ≤ (s.size : Int) ∧ (s.size : Int) ≤ 8)
theorem nameS (s : ByteArray) : spec_l15Name.f s = some (nameOk s) := by unfold spec_l15Name.f; rw [inS]; rfl
theorem nameI (s : ByteArray) : impl_isName.f s = some (nameOk s) := by unfold impl_isName.f; rw [inI]; rfl
theorem nameOk_size {s : ByteArray} (h : nameOk s = true) : 1 ≤ s.size ∧ s.size ≤ 8 := by
  have := of_decide_eq_true h
  omega
def threeOk (a b c : ByteArray) : Bool := nameOk a && (nameOk b && decide ((c.size : Int) ≤ 40))
def commitM (a b c : ByteArray) : ByteArray := dig 98 (rowM [a, b, c])
theorem kb : Kd_ 98 := ⟨by decide, by decide⟩
theorem total3 {a b c : ByteArray} (h : threeOk a b c = true) : total [a, b, c] ≤ 100 ∧ c.size ≤ 40 ∧ nameOk a = true ∧ nameOk b = true := by
  simp only [threeOk, Bool.and_eq_true, decide_eq_true_eq] at h
  have h1 := nameOk_size h.1
  have h2 := nameOk_size h.2.1
  have h3 := h.2.2
  simp only [total, szL, List.length_cons, List.length_nil]
  exact ⟨by omega, by omega, h.1, h.2.1⟩
theorem goodS (a b c : ByteArray) : spec_l15Good.f a b c = some (threeOk a b c) := by
  unfold spec_l15Good.f threeOk
  rw [nameS, nameS]
  cases ha : nameOk a <;> cases hb : nameOk b <;> rfl
theorem commitS (a b c : ByteArray) (h : threeOk a b c = true) : Ev (fun k => spec_l15Commit.f k a b c) (commitM a b c) := by
  have ht := (total3 h).1
  exact ev_bind (rowS [a, b, c] (by omega)) (ev_bind (digS 98 kb _ (by rw [rowM_size]; omega)) (Ev.now _))
theorem commitI (a b c : ByteArray) : Ev (fun k => impl_CommitOf.f k a b c) (if threeOk a b c = true then (commitM a b c, true) else (⟨#[]⟩, false)) := by
  refine ev_const (nameI a) ?_
  cases ha : nameOk a with
  | false =>
    have e : threeOk a b c = false := by simp [threeOk, ha]
    rw [e, if_neg (by simp)]
    exact ev_neg (by simp) (Ev.now _)
  | true =>
    refine ev_pos rfl (ev_const (nameI b) ?_)
    cases hb : nameOk b with
    | false =>
      have e : threeOk a b c = false := by simp [threeOk, ha, hb]
      rw [e, if_neg (by simp)]
      exact ev_neg (by simp) (Ev.now _)
    | true =>
      refine ev_pos rfl ?_
      by_cases hc : (c.size : Int) ≤ 40
      · have e : threeOk a b c = true := by simp [threeOk, ha, hb, hc]
        have ht := total3 e
        rw [e, if_pos rfl]
        refine ev_neg (by omega) (ev_bind (listDigestI 98 [a, b, c]) ?_)
        have h1 := nameOk_size ha
        have h2 := nameOk_size hb
        have hsm : small [a, b, c] = true := by
          simp only [small, List.all_cons, List.all_nil, Bool.and_true, Bool.and_eq_true, decide_eq_true_eq]; omega
        have e2 : listDigestM 98 [a, b, c] = (commitM a b c, true) := by
          unfold listDigestM digestOfM
          rw [if_pos (by simp), if_pos hsm, if_pos ⟨by decide, by rw [rowM_size]; omega⟩]; rfl
        rw [e2]
        exact Ev.now _
      · have e : threeOk a b c = false := by simp [threeOk, ha, hb, hc]
        rw [e, if_neg (by simp)]
        exact ev_pos (by omega) (Ev.now _)
def emptyB (s : ByteArray) : Bool := s.toList == ([] : List UInt8)
def slotOk (a b c d : ByteArray) (o : Bool) : Bool :=
  if o = true then nameOk a && (decide (c.size = 4) && (emptyB b && emptyB d)) else threeOk a b d && decide (c = commitM a b d)
theorem slotS (a b c d : ByteArray) (o : Bool) : Ev (fun k => spec_l15Slot.f k a b c d o) (slotOk a b c d o) := by
  unfold slotOk spec_l15Slot.f
  cases o with
  | true =>
    refine ev_pos rfl (ev_const (nameS a) ?_)
    rw [if_pos rfl]
    cases ha : nameOk a with
    | false => exact ev_neg (by simp) (Ev.now _)
    | true =>
      refine ev_pos rfl ?_
      rw [Bool.true_and]
      by_cases hc : c.size = 4
      · refine ev_pos (by omega) ?_
        rw [decide_eq_true hc, Bool.true_and]
        by_cases hb : b.toList = ([] : List UInt8)
        · refine ev_pos hb ?_
          rw [show emptyB b = true from beq_iff_eq.2 hb, Bool.true_and]
          exact Ev.now _
        · refine ev_neg hb ?_
          rw [show emptyB b = false from beq_eq_false_iff_ne.2 hb, Bool.false_and]
          exact Ev.now _
      · refine ev_neg (by omega) ?_
        rw [decide_eq_false hc, Bool.false_and]
        exact Ev.now _
  | false =>
    refine ev_neg (by simp) (ev_const (goodS a b d) ?_)
    rw [if_neg (by simp)]
    cases hg : threeOk a b d with
    | false => exact ev_neg (by simp) (Ev.now _)
    | true =>
      refine ev_pos rfl (ev_bind (commitS a b d hg) ?_)
      rw [Bool.true_and]
      refine ev_eq (Ev.now _) ?_
      rw [ba_beq]
theorem slotI (a b c d : ByteArray) (o : Bool) : Ev (fun k => impl_isSlot.f k a b c d o) (slotOk a b c d o) := by
  unfold slotOk impl_isSlot.f
  cases o with
  | true =>
    refine ev_pos rfl (ev_const (nameI a) ?_)
    rw [if_pos rfl]
    cases ha : nameOk a with
    | false => exact ev_neg (by simp) (Ev.now _)
    | true =>
      refine ev_pos rfl (ev_const (isDigI c) ?_)
      rw [Bool.true_and]
      by_cases hc : c.size = 4
      · refine ev_pos (decide_eq_true hc) ?_
        rw [decide_eq_true hc, Bool.true_and]
        by_cases hb : b.toList = ([] : List UInt8)
        · refine ev_pos hb ?_
          rw [show emptyB b = true from beq_iff_eq.2 hb, Bool.true_and]
          exact Ev.now _
        · refine ev_neg hb ?_
          rw [show emptyB b = false from beq_eq_false_iff_ne.2 hb, Bool.false_and]
          exact Ev.now _
      · refine ev_neg (by simp [hc]) ?_
        rw [decide_eq_false hc, Bool.false_and]
        exact Ev.now _
  | false =>
    show Ev _ (threeOk a b d && decide (c = commitM a b d))
    refine ev_neg (by simp) (ev_bind (commitI a b d) ?_)
    cases hg : threeOk a b d with
    | false => exact ev_neg (by simp) (Ev.now _)
    | true =>
      refine ev_pos rfl ?_
      rw [Bool.true_and]
      refine ev_eq (Ev.now _) ?_
      show ((commitM a b d).toList == c.toList) = _
      rw [ba_beq]
      by_cases h : c = commitM a b d
      · rw [decide_eq_true h, h]; simp
      · rw [decide_eq_false h, decide_eq_false (fun e => h e.symm)]
end Go.Proofs.Ytfajabboibcgpaa.PQR
end
section
namespace Go.Proofs.Ytfajabboibcgpaa.PVR
open Go.RowKit Go.Proofs.YtfajabboibcgpaaW.PrintWords Go.Proofs.YtfajabboibcgpaaW.PrintLast Go.Proofs.YtfajabboibcgpaaW.PrintMore Go.Proofs.Ytfajabboibcgpaa.PBR Go.Proofs.Ytfajabboibcgpaa.PDR Go.Proofs.Ytfajabboibcgpaa.PKR Go.Proofs.Ytfajabboibcgpaa.PLR Go.Proofs.Ytfajabboibcgpaa.PSR Go.Proofs.Ytfajabboibcgpaa.PTR Go.Proofs.Ytfajabboibcgpaa.PUR Go.Proofs.Ytfajabboibcgpaa.PGR Go.Proofs.Ytfajabboibcgpaa.PQR Go.Proofs.Ytfajabboibcgpaa.PR
set_option linter.unusedVariables false
theorem rdI_at (l : List S72) (i : Nat) (h : i < l.length) : rd_T72 l (i : Int) = l[i] := by
  simp [rd_T72, List.getD_eq_getElem?_getD, List.getElem?_eq_getElem h]
theorem rdL_at (l : List S113) (i : Nat) (h : i < l.length) : rd_T113 l (i : Int) = l[i] := by
  simp [rd_T113, List.getD_eq_getElem?_getD, List.getElem?_eq_getElem h]
def slotB (x : S72) : Bool := slotOk x.f0 x.f1 x.f2 x.f3 x.f4
def shelfOk (l : List S72) : Bool := decide ((l.length : Int) ≤ 20) && l.all slotB
theorem goodShelfS (l : List S72) (hl : l.length ≤ 2000000) : Ev (fun k => spec_GoodShelf.f k l) (shelfOk l) := by
  have key : ∀ (d i : Nat), i + d = l.length → Ev (fun k => spec_GoodShelf.l0 k l l (l.length : Int) (i : Int)) (decide ((l.length : Int) ≤ 20) && (l.drop i).all slotB) := by
    intro d
    induction d with
    | zero =>
      intro i hi
      rw [List.drop_eq_nil_of_le (by omega), List.all_nil, Bool.and_true]
      refine Ev.step (f := fun _ => some (decide ((l.length : Int) ≤ 20))) (fun k => ?_) (Ev.now _)
      simp only [spec_GoodShelf.l0]; rw [if_neg (by omega)]
    | succ d ih =>
      intro i hi
      have hlt : i < l.length := by omega
      rw [List.drop_eq_getElem_cons hlt, List.all_cons]
      refine Ev.step (f := fun k => (spec_l15Slot.f k l[i].f0 l[i].f1 l[i].f2 l[i].f3 l[i].f4).bind fun t => if t = true then spec_GoodShelf.l0 k l l (l.length : Int) ((i + 1 : Nat) : Int) else some false) (fun k => ?_) ?_
      · simp only [spec_GoodShelf.l0]
        rw [if_pos (by omega), if_pos (by omega), if_pos (by omega), rdI_at l i hlt, w64 (x := (i : Int) + 1) (by omega) (by omega)]
        rfl
      · refine ev_bind (slotS _ _ _ _ _) ?_
        show Ev _ (decide ((l.length : Int) ≤ 20) && (slotB l[i] && _))
        unfold slotB
        cases hb : slotOk l[i].f0 l[i].f1 l[i].f2 l[i].f3 l[i].f4 with
        | true => rw [Bool.true_and]; exact ev_pos rfl (ih (i + 1) (by omega))
        | false => rw [Bool.false_and, Bool.and_false]; exact ev_neg (by simp) (Ev.now _)
  exact key l.length 0 (by omega)
theorem goodShelfI (l : List S72) (hl : l.length ≤ 2000000) : Ev (fun k => impl_GoodShelf.f k l) (shelfOk l) := by
  unfold shelfOk impl_GoodShelf.f
  by_cases h : (l.length : Int) ≤ 20
  · refine ev_pos h ?_
    rw [decide_eq_true h, Bool.true_and]
    obtain ⟨r, hr, e⟩ := idx_any l rd_T72 (fun i h => rdI_at l i h) slices_IndexFunc_impl_GoodShelf_1.l0 (fun k x => impl_GoodShelf_1.f k x.f0 x.f1 x.f2 x.f3 x.f4) (fun x => !slotB x) (fun k n i => rfl) (fun x _ => ev_bind (f := fun _ t => some (!t)) (slotI _ _ _ _ _) (Ev.now _)) (by omega)
    have hc : Ev (fun k => slices_ContainsFunc_impl_GoodShelf_1.f k l) (l.any fun x => !slotB x) := by
      rw [← e]
      exact ev_bind (f := fun _ t => some (decide (t ≥ 0))) hr (Ev.now _)
    refine ev_eq (ev_bind (f := fun _ t => some (!t)) hc (Ev.now _)) ?_
    have : ∀ l : List S72, (!(l.any fun x => !slotB x)) = l.all slotB := by
      intro l
      induction l with
      | nil => rfl
      | cons a l ih => simp only [List.any_cons, List.all_cons, Bool.not_or, Bool.not_not, ih]
    exact this l
  · refine ev_neg h ?_
    rw [decide_eq_false h]
    exact Ev.now _
def wtL (x : S113) : Nat := x.f0.size + x.f1.size + x.f2.size + x.f3.size
def FitS (x : S113) : Prop := x.f0.size ≤ 9223372036854775807 ∧ x.f1.size ≤ 9223372036854775807 ∧ x.f2.size ≤ 9223372036854775807 ∧ x.f3.size ≤ 9223372036854775807
theorem szSlot (a b c d : ByteArray) (o : Bool) (h : a.size ≤ 9223372036854775807 ∧ b.size ≤ 9223372036854775807 ∧ c.size ≤ 9223372036854775807 ∧ d.size ≤ 9223372036854775807) (R : Int) (h0 : 0 ≤ R) (h1 : R ≤ 1000000000000) :
    laws_szSlot.f a b c d o R = some (left R (a.size + b.size + c.size + d.size)) := by
  obtain ⟨ha, hb, hc, hd⟩ := h
  unfold laws_szSlot.f left
  rw [w64 (x := R - (a.size : Int)) (by omega) (by omega)]
  by_cases c1 : R - (a.size : Int) < 0
  · rw [if_pos c1, if_neg (by omega)]
  rw [if_neg c1, w64 (x := R - (a.size : Int) - (b.size : Int)) (by omega) (by omega)]
  by_cases c2 : R - (a.size : Int) - (b.size : Int) < 0
  · rw [if_pos c2, if_neg (by omega)]
  rw [if_neg c2, w64 (x := R - (a.size : Int) - (b.size : Int) - (c.size : Int)) (by omega) (by omega)]
  by_cases c3 : R - (a.size : Int) - (b.size : Int) - (c.size : Int) < 0
  · rw [if_pos c3, if_neg (by omega)]
  rw [if_neg c3, w64 (x := R - (a.size : Int) - (b.size : Int) - (c.size : Int) - (d.size : Int)) (by omega) (by omega)]
  by_cases c4 : R - (a.size : Int) - (b.size : Int) - (c.size : Int) - (d.size : Int) < 0
  · rw [if_pos c4, if_neg (by omega)]
  rw [if_neg c4, if_pos (by omega)]
  refine congrArg some ?_
  omega
theorem szSlots (l : List S113) (hf : l.length ≤ 9223372036854775807 ∧ ∀ x ∈ l, FitS x) (R : Int) (h0 : 0 ≤ R) (h1 : R ≤ 1000000000) : Ev (fun k => laws_szSlotS.f k l R) (left R (l.length + wsum wtL l)) :=
  sz_list wtL l rd_T113 (fun i h => rdL_at l i h) laws_szSlotS.l0 laws_szSlotS.f (fun _ x R => laws_szSlot.f x.f0 x.f1 x.f2 x.f3 x.f4 R) (fun k R i => rfl) (fun k R => rfl)
    (fun x hx R h0 h1 => ev_of_eq (szSlot _ _ _ _ _ (hf.2 x hx) R h0 h1)) hf.1 R h0 h1
def conv (x : S113) : S72 := ⟨x.f0, x.f1, x.f2, x.f3, x.f4⟩
theorem toSlots (l : List S113) (hl : l.length ≤ 2000000) : Ev (fun k => laws_toSlotS.f k l) (l.map conv) := by
  refine Ev.congr (f := fun k => laws_toSlotS.l0 k l (List.replicate l.length z72) 0) (fun k => ?_) (to_list conv z72 l laws_toSlotS.l0 hl (fun k out => ?_) (fun i h out ho r hr => ?_))
  · simp only [laws_toSlotS.f]
    rw [if_pos (by omega), if_pos (by omega)]
    rfl
  · simp only [laws_toSlotS.l0]; rw [if_neg (by omega)]
  · refine Ev.step (f := fun k => laws_toSlotS.l0 k l (out.set i (conv l[i])) ((i + 1 : Nat) : Int)) (fun k => ?_) hr
    simp only [laws_toSlotS.l0, laws_toSlot.f, Option.bind_some]
    rw [if_pos (by omega), if_pos (by omega), if_pos (by omega), rdL_at l i h, w64 (x := (i : Int) + 1) (by omega) (by omega)]
    rfl
theorem eqSlots (l : List S72) (hl : l.length ≤ 2000000) : Ev (fun k => laws_eqSlotS.f k l l) true := by
  refine eq_list l laws_eqSlotS.l0 laws_eqSlotS.f (fun k => ?_) (fun k => ?_) (fun i h hr => ?_)
  · simp only [laws_eqSlotS.l0]; rw [if_neg (by omega)]
  · simp only [laws_eqSlotS.f]; rw [if_pos trivial]
  · refine Ev.step (f := fun k => laws_eqSlotS.l0 k l l ((i + 1 : Nat) : Int)) (fun k => ?_) hr
    simp only [laws_eqSlotS.l0, laws_eqSlot.f]
    rw [if_pos (by omega), if_pos (by omega), if_pos (by omega), if_pos trivial, if_pos trivial, if_pos trivial, if_pos trivial, if_neg (by simp), w64 (x := (i : Int) + 1) (by omega) (by omega)]
    rfl
end Go.Proofs.Ytfajabboibcgpaa.PVR
end
section
namespace Go.Proofs.Ytfajabboibcgpaa.PWR
open Go.RowKit Go.Proofs.YtfajabboibcgpaaW.PrintWords Go.Proofs.YtfajabboibcgpaaW.PrintLast Go.Proofs.YtfajabboibcgpaaW.PrintMore Go.Proofs.Ytfajabboibcgpaa.PBR Go.Proofs.Ytfajabboibcgpaa.PDR Go.Proofs.Ytfajabboibcgpaa.PKR Go.Proofs.Ytfajabboibcgpaa.PLR Go.Proofs.Ytfajabboibcgpaa.PSR Go.Proofs.Ytfajabboibcgpaa.PTR Go.Proofs.Ytfajabboibcgpaa.PUR Go.Proofs.Ytfajabboibcgpaa.PGR Go.Proofs.Ytfajabboibcgpaa.PQR Go.Proofs.Ytfajabboibcgpaa.PVR Go.Proofs.Ytfajabboibcgpaa.PR
set_option linter.unusedVariables false
end Go.Proofs.Ytfajabboibcgpaa.PWR
end
section
namespace Go.Proofs.Ytfajabboibcgpaa.PXR
open Go.RowKit Go.Proofs.YtfajabboibcgpaaW.PrintWords Go.Proofs.YtfajabboibcgpaaW.PrintLast Go.Proofs.YtfajabboibcgpaaW.PrintMore Go.Proofs.Ytfajabboibcgpaa.PBR Go.Proofs.Ytfajabboibcgpaa.PDR Go.Proofs.Ytfajabboibcgpaa.PKR Go.Proofs.Ytfajabboibcgpaa.PLR Go.Proofs.Ytfajabboibcgpaa.PSR Go.Proofs.Ytfajabboibcgpaa.PTR Go.Proofs.Ytfajabboibcgpaa.PUR Go.Proofs.Ytfajabboibcgpaa.PGR Go.Proofs.Ytfajabboibcgpaa.PQR Go.Proofs.Ytfajabboibcgpaa.PWR Go.Proofs.Ytfajabboibcgpaa.PR
set_option linter.unusedVariables false
end Go.Proofs.Ytfajabboibcgpaa.PXR
end
section
namespace Go.Proofs.Ytfajabboibcgpaa.PYR
open Go.RowKit Go.Proofs.YtfajabboibcgpaaW.PrintWords Go.Proofs.YtfajabboibcgpaaW.PrintLast Go.Proofs.YtfajabboibcgpaaW.PrintMore Go.Proofs.Ytfajabboibcgpaa.PBR Go.Proofs.Ytfajabboibcgpaa.PDR Go.Proofs.Ytfajabboibcgpaa.PKR Go.Proofs.Ytfajabboibcgpaa.PLR Go.Proofs.Ytfajabboibcgpaa.PSR Go.Proofs.Ytfajabboibcgpaa.PTR Go.Proofs.Ytfajabboibcgpaa.PUR Go.Proofs.Ytfajabboibcgpaa.PGR Go.Proofs.Ytfajabboibcgpaa.PQR Go.Proofs.Ytfajabboibcgpaa.PWR Go.Proofs.Ytfajabboibcgpaa.PXR Go.Proofs.Ytfajabboibcgpaa.PR
set_option linter.unusedVariables false
end Go.Proofs.Ytfajabboibcgpaa.PYR
end
section
namespace Go.Proofs.Ytfajabboibcgpaa.PZR
open Go.RowKit Go.Proofs.YtfajabboibcgpaaW.PrintWords Go.Proofs.YtfajabboibcgpaaW.PrintLast Go.Proofs.YtfajabboibcgpaaW.PrintMore Go.Proofs.Ytfajabboibcgpaa.PBR Go.Proofs.Ytfajabboibcgpaa.PDR Go.Proofs.Ytfajabboibcgpaa.PKR Go.Proofs.Ytfajabboibcgpaa.PLR Go.Proofs.Ytfajabboibcgpaa.PSR Go.Proofs.Ytfajabboibcgpaa.PTR Go.Proofs.Ytfajabboibcgpaa.PUR Go.Proofs.Ytfajabboibcgpaa.PGR Go.Proofs.Ytfajabboibcgpaa.PQR Go.Proofs.Ytfajabboibcgpaa.PVR Go.Proofs.Ytfajabboibcgpaa.PWR Go.Proofs.Ytfajabboibcgpaa.PXR Go.Proofs.Ytfajabboibcgpaa.PYR Go.Proofs.Ytfajabboibcgpaa.PR
set_option linter.unusedVariables false
theorem shelf_len {l : List S72} (h : shelfOk l = true) : l.length ≤ 20 := by
  unfold shelfOk at h
  simp only [Bool.and_eq_true, decide_eq_true_eq] at h
  omega
end Go.Proofs.Ytfajabboibcgpaa.PZR
end
section
namespace Go.Proofs.Ytfajabboibcgpaa.PMR
open Go.RowKit Go.Proofs.YtfajabboibcgpaaW.PrintWords Go.Proofs.YtfajabboibcgpaaW.PrintLast Go.Proofs.YtfajabboibcgpaaW.PrintMore Go.Proofs.Ytfajabboibcgpaa.PBR Go.Proofs.Ytfajabboibcgpaa.PLR Go.Proofs.Ytfajabboibcgpaa.PGR Go.Proofs.Ytfajabboibcgpaa.PVR Go.Proofs.Ytfajabboibcgpaa.PR
set_option linter.unusedVariables false
noncomputable def mkS (a : Nat) : S72 := ⟨mk_ a, mk_ (a + 1), mk_ (a + 2), mk_ (a + 3), Int.tmod ((a + 4 : Nat) : Int) 3 == 0⟩
noncomputable def marksS (a n : Nat) : List S72 := (List.range n).map fun i => mkS (a + 5 * i)
theorem marksS_length (a n : Nat) : (marksS a n).length = n := by simp [marksS]
theorem marksS_at (a n i : Nat) (h : i < n) : (marksS a n)[i]'(by rw [marksS_length]; exact h) = mkS (a + 5 * i) := by simp [marksS]
theorem rd_set (x : List S72) (i : Nat) (v : S72) (h : i < x.length) : rd_T72 (x.set i v) (i : Int) = v := by
  rw [rdI_at _ i (by rw [List.length_set]; exact h), List.getElem_set_self]
theorem add1 (a : Nat) (h : a ≤ 1000000000000) : wrap64 ((a : Int) + 1) = ((a + 1 : Nat) : Int) := by rw [w64 (by omega) (by omega)]; rfl
theorem markSlots_loop (l : List S72) (a : Nat) (hl : l.length ≤ 1000000000) (ha : a ≤ 1000000000) : ∀ (d i : Nat), i + d = l.length → Ev (fun k => laws_markSlotS.l0 k (marksS a i ++ l.drop i) ((a + 5 * i : Nat) : Int) (i : Int)) (((a + 5 * l.length : Nat) : Int), marksS a l.length) := by
  intro d
  induction d with
  | zero =>
    intro i hi
    have hi' : i = l.length := by omega
    subst hi'
    refine Ev.step (f := fun _ => some (((a + 5 * l.length : Nat) : Int), marksS a l.length)) (fun k => ?_) (Ev.now _)
    simp only [laws_markSlotS.l0]
    rw [if_neg (by simp [marksS_length]), List.drop_length, List.append_nil]
  | succ d ih =>
    intro i hi
    have hlt : i < l.length := by omega
    have hxl : i < (marksS a i ++ l.drop i).length := by simp only [List.length_append, marksS_length, List.length_drop]; omega
    have i1 : (i : Int) < ((marksS a i ++ l.drop i).length : Int) := by omega
    have i0 : 0 ≤ (i : Int) := by omega
    have bi : i ≤ 1000000000000 := by omega
    have b0 : a + 5 * i ≤ 1000000000000 := by omega
    have b1 : a + 5 * i + 1 ≤ 1000000000000 := by omega
    have b2 : a + 5 * i + 2 ≤ 1000000000000 := by omega
    have b3 : a + 5 * i + 3 ≤ 1000000000000 := by omega
    have b4 : a + 5 * i + 4 ≤ 1000000000000 := by omega
    have c3 : a + 5 * i + 3 ≤ 1000000000000000000 := by omega
    have e5 : a + 5 * i + 5 = a + 5 * (i + 1) := by omega
    have hx := ih (i + 1) (by omega)
    have hfin : (marksS a i ++ l.drop i).set i (mkS (a + 5 * i)) = marksS a (i + 1) ++ l.drop (i + 1) := by
      rw [List.set_append_right _ _ (by rw [marksS_length]; omega), marksS_length, Nat.sub_self, List.drop_eq_getElem_cons hlt, List.set_cons_zero]
      simp [marksS, List.range_succ]
    rw [← hfin, ← e5] at hx
    generalize marksS a i ++ l.drop i = x at hx hxl i1 ⊢
    generalize a + 5 * i = b at hx b0 b1 b2 b3 b4 c3 ⊢
    refine Ev.step (f := fun k => (laws_markText.f k (b : Int)).bind fun t => (laws_markText.f k ((b + 1 : Nat) : Int)).bind fun t1 => (laws_markText.f k ((b + 2 : Nat) : Int)).bind fun t2 => (laws_markText.f k ((b + 3 : Nat) : Int)).bind fun t3 => laws_markSlotS.l0 k (x.set i ⟨t, t1, t2, t3, Int.tmod ((b + 4 : Nat) : Int) 3 == 0⟩) ((b + 5 : Nat) : Int) ((i + 1 : Nat) : Int)) (fun k => ?_) ?_
    · simp only [laws_markSlotS.l0]
      rw [if_pos i1, add1 b b0, add1 (b + 1) b1, add1 (b + 2) b2, add1 (b + 3) b3, add1 (b + 4) b4, add1 i bi]
      congr 1
      funext t
      rw [if_pos i0]
      simp only [Option.bind_some, Int.toNat_natCast, rd_set x i _ hxl, List.set_set]
    · exact ev_bind (markT b (Nat.le_trans b0 (by decide))) (ev_bind (markT (b + 1) (Nat.le_trans b1 (by decide))) (ev_bind (markT (b + 2) (Nat.le_trans b2 (by decide))) (ev_bind (markT (b + 3) c3) hx)))
theorem markSlotsV (l : List S72) (hl : l.length ≤ 1000000000) : Ev (fun k => laws_markSlotS.f k l 1) (((1 + 5 * l.length : Nat) : Int), marksS 1 l.length) := by
  have := markSlots_loop l 1 hl (by omega) l.length 0 (by omega)
  simp only [List.drop_zero, marksS, List.range_zero, List.map_nil, List.nil_append, Nat.mul_zero, Nat.add_zero] at this
  exact this
theorem heldSlotsV (n : Nat) (hl : n ≤ 1000000000) : Ev (fun k => laws_heldSlotS.f k (marksS 1 n) 1) ((1 + 5 * n : Nat) : Int) := by
  have key : ∀ (d i : Nat), i + d = n → Ev (fun k => laws_heldSlotS.l0 k (marksS 1 n) ((1 + 5 * i : Nat) : Int) (i : Int)) ((1 + 5 * n : Nat) : Int) := by
    intro d
    induction d with
    | zero =>
      intro i hi
      refine Ev.step (f := fun _ => some ((1 + 5 * n : Nat) : Int)) (fun k => ?_) (Ev.now _)
      simp only [laws_heldSlotS.l0]
      rw [if_neg (by rw [marksS_length]; omega), show i = n by omega]
    | succ d ih =>
      intro i hi
      have hlt : i < (marksS 1 n).length := by rw [marksS_length]; omega
      have i1 : (i : Int) < ((marksS 1 n).length : Int) := by omega
      have i0 : 0 ≤ (i : Int) := by omega
      have bi : i ≤ 1000000000000 := by omega
      have e5 : 1 + 5 * i + 5 = 1 + 5 * (i + 1) := by omega
      have b4 : 1 + 5 * i + 4 ≤ 1000000000000 := by omega
      have hx := ih (i + 1) (by omega)
      rw [← e5] at hx
      have hv : rd_T72 (marksS 1 n) (i : Int) = mkS (1 + 5 * i) := by rw [rdI_at _ i hlt, marksS_at 1 n i (by omega)]
      generalize 1 + 5 * i = b at hx hv b4 ⊢
      have b0 : b ≤ 1000000000000 := by omega
      have b1 : b + 1 ≤ 1000000000000 := by omega
      have b2 : b + 2 ≤ 1000000000000 := by omega
      have b3 : b + 3 ≤ 1000000000000 := by omega
      refine Ev.step (f := fun k => (laws_markText.f k (b : Int)).bind fun t => if (mk_ b).toList = t.toList then ((laws_markText.f k ((b + 1 : Nat) : Int)).bind fun t => if (mk_ (b + 1)).toList = t.toList then ((laws_markText.f k ((b + 2 : Nat) : Int)).bind fun t => if (mk_ (b + 2)).toList = t.toList then ((laws_markText.f k ((b + 3 : Nat) : Int)).bind fun t => if (mk_ (b + 3)).toList = t.toList then laws_heldSlotS.l0 k (marksS 1 n) ((b + 5 : Nat) : Int) ((i + 1 : Nat) : Int) else some (-1)) else some (-1)) else some (-1)) else some (-1)) (fun k => ?_) ?_
      · simp only [laws_heldSlotS.l0]
        rw [if_pos i1, if_pos i0, add1 b b0, add1 (b + 1) b1, add1 (b + 2) b2, add1 (b + 3) b3, add1 (b + 4) b4, add1 i bi, hv]
        simp only [mkS, bne_self_eq_false, Bool.false_eq_true, if_false]
      · exact ev_bind (markT b (Nat.le_trans b0 (by decide))) (ev_pos rfl (ev_bind (markT (b + 1) (Nat.le_trans b1 (by decide))) (ev_pos rfl (ev_bind (markT (b + 2) (Nat.le_trans b2 (by decide))) (ev_pos rfl (ev_bind (markT (b + 3) (Nat.le_trans b3 (by decide))) (ev_pos rfl hx)))))))
  exact key n 0 (by omega)
end Go.Proofs.Ytfajabboibcgpaa.PMR
end
section
namespace Go.Proofs.Ytfajabboibcgpaa.Pure
open Go.RowKit Go.Proofs.YtfajabboibcgpaaW.PrintWords Go.Proofs.YtfajabboibcgpaaW.PrintLast Go.Proofs.YtfajabboibcgpaaW.PrintMore Go.Proofs.Ytfajabboibcgpaa.PBR Go.Proofs.Ytfajabboibcgpaa.PLR Go.Proofs.Ytfajabboibcgpaa.PGR Go.Proofs.Ytfajabboibcgpaa.PQR Go.Proofs.Ytfajabboibcgpaa.PVR Go.Proofs.Ytfajabboibcgpaa.PZR Go.Proofs.Ytfajabboibcgpaa.PMR Go.Proofs.Ytfajabboibcgpaa.PR
set_option linter.unusedVariables false
theorem putSlot_two (l : List S72) (a b c : ByteArray) (hl : l.length ≤ 2000000) : ∃ t f, Ev (fun k => spec_PutSlot.f k l a b c) (t, f) ∧ Ev (fun k => impl_PutSlot.f k l a b c) (t, f) ∧ t.length ≤ 2000000 := by
  have hS := goodShelfS l hl
  have hI := goodShelfI l hl
  have hC := commitI a b c
  have hcl : impl_Slot_135.f l = some l := by
    unfold impl_Slot_135.f
    simp only [Option.bind_some]
    rw [if_pos (by simp only [List.length_nil]; omega)]
    rfl
  cases h2 : threeOk a b c with
  | false =>
    rw [h2, if_neg (by simp)] at hC
    refine ⟨[], false, ev_bind hS ?_, ev_bind hC (ev_neg (by simp) (Ev.now _)), by simp⟩
    cases h1 : shelfOk l with
    | false => exact ev_neg (by simp) (Ev.now _)
    | true => exact ev_pos rfl (ev_const (goodS a b c) (ev_neg (by simp [h2]) (Ev.now _)))
  | true =>
    rw [h2, if_pos rfl] at hC
    cases h1 : shelfOk l with
    | false =>
      rw [h1] at hS hI
      exact ⟨[], false, ev_bind hS (ev_neg (by simp) (Ev.now _)), ev_bind hC (ev_pos rfl (ev_bind hI (ev_neg (by simp) (Ev.now _)))), by simp⟩
    | true =>
      rw [h1] at hS hI
      have hn := shelf_len h1
      by_cases h3 : (l.length : Int) = 20
      · exact ⟨[], false, ev_bind hS (ev_pos rfl (ev_const (goodS a b c) (ev_pos h2 (ev_pos h3 (Ev.now _))))), ev_bind hC (ev_pos rfl (ev_bind hI (ev_pos rfl (ev_pos h3 (Ev.now _))))), by simp⟩
      · refine ⟨l ++ [⟨a, b, commitM a b c, c, false⟩], true, ev_bind hS (ev_pos rfl (ev_const (goodS a b c) (ev_pos h2 (ev_neg h3 (ev_bind (commitS a b c h2) (ev_const (a := []) rfl (ev_pos (by simp only [List.length_nil]; omega) (ev_const (a := l) rfl (ev_const rfl (ev_pos (by simp only [List.length_cons, List.length_nil]; omega) (Ev.now _))))))))))), ev_bind hC (ev_pos rfl (ev_bind hI (ev_pos rfl (ev_neg h3 (ev_const hcl (ev_pos (by omega) (Ev.now _))))))), by rw [List.length_append]; simp only [List.length_cons, List.length_nil]; omega⟩
theorem FnExactPutSlot (l : List S113) (a b c : ByteArray) (hf : l.length ≤ maxLen ∧ ∀ x ∈ l, x.f0.size ≤ maxLen ∧ x.f1.size ≤ maxLen ∧ x.f2.size ≤ maxLen ∧ x.f3.size ≤ maxLen ∧ True) (ha : a.size ≤ maxLen) (hb : b.size ≤ maxLen) (hc : c.size ≤ maxLen) : ∃ k, laws_FnExactPutSlot.f k l a b c = some true := by
  refine Ev.rounds ?_
  unfold laws_FnExactPutSlot.f
  by_cases c0 : (a.size : Int) > 1048576
  · simp only [if_pos c0]; exact Ev.now _
  simp only [if_neg c0]
  by_cases c1 : (b.size : Int) > 1048576
  · simp only [if_pos c1]; exact Ev.now _
  simp only [if_neg c1]
  by_cases c2 : (c.size : Int) > 1048576
  · simp only [if_pos c2]; exact Ev.now _
  simp only [if_neg c2]
  have hz := szSlots l ⟨hf.1, fun x hx => let h := hf.2 x hx; ⟨h.1, h.2.1, h.2.2.1, h.2.2.2.1⟩⟩ 1048576 (by omega) (by omega)
  by_cases ht : ((l.length + wsum wtL l : Nat) : Int) ≤ 1048576
  · rw [left_yes ht] at hz
    have hl : l.length ≤ 2000000 := by omega
    have hm : (l.map conv).length ≤ 2000000 := by rw [List.length_map]; exact hl
    obtain ⟨t, f, hS, hI, hn'⟩ := putSlot_two (l.map conv) a b c hm
    refine ev_bind hz (ev_neg (by omega) (ev_bind (toSlots l hl) (ev_bind hS (ev_bind (toSlots l hl) (ev_bind hI (ev_bind (eqSlots t hn') (ev_pos rfl ?_)))))))
    simp only [bne_self_eq_false]
    have m0 := markSlotsV (l.map conv) (by omega)
    have mt := markSlotsV t (by omega)
    have ht := heldSlotsV t.length (by omega)
    refine Ev.step (f := fun k => _) (fun k => by simp only [laws_FnExactPutSlot.j0]; rfl) ?_
    refine ev_neg (by simp) (ev_bind (toSlots l hl) (ev_bind (eqSlots _ hm) (ev_pos rfl (ev_bind m0 (ev_neg (by omega) (ev_bind (eqSlots t hn') (ev_pos rfl ?_)))))))
    simp only [bne_self_eq_false]
    refine Ev.step (f := fun k => _) (fun k => by simp only [laws_FnExactPutSlot.j1]; rfl) ?_
    refine ev_neg (by simp) (ev_bind mt (ev_bind ht (ev_neg (by omega) (ev_pos rfl (ev_bind (toSlots l hl) (ev_bind hI (ev_bind (eqSlots t hn') (ev_pos rfl ?_))))))))
    simp only [bne_self_eq_false]
    refine Ev.step (f := fun k => _) (fun k => by simp only [laws_FnExactPutSlot.j2]; rfl) ?_
    exact ev_neg (by simp) (ev_bind ht (ev_neg (by omega) (ev_pos rfl (Ev.now _))))
  · rw [left_no ht] at hz
    exact ev_bind hz (ev_pos (by omega) (Ev.now _))
end Go.Proofs.Ytfajabboibcgpaa.Pure
end
section
namespace Go.Proofs.Ytfajabboibcgpaa.RO
open Go.RowKit Go.Proofs.YtfajabboibcgpaaW.PrintWords Go.ChangeShapes Go.WideShapes
set_option linter.unusedVariables false
def Opn (P : Program) (W : World) (e : TypeId) {α : Type} (d : Kd α) (G : α → Prop) : Prop :=
  ∀ {H : Type} {enc : TypeId × Value → H} {base : Nat} {spare : Nat → Bool} {held : Bool} {n : Nat} {cs : List Value} {x : DataW H × List MemPlace},
    DataW.trod enc P W base spare held n e cs = some x → ∃ y : α, d.K W y cs ∧ G y
section
variable {P : Program} {W : World} {e t : TypeId}
theorem op_string (he : P.underlying e = some .string) : Opn P W e Kd.string (fun s => s.size ≤ maxLen) := by
  intro H enc base spare held n cs x h
  obtain ⟨s, rfl, _, hs⟩ := DataW.trod_string he h
  exact ⟨s, rfl, hs⟩
theorem op_bool (he : P.underlying e = some .bool) : Opn P W e Kd.bool (fun _ => True) := by
  intro H enc base spare held n cs x h
  obtain ⟨b, rfl, _⟩ := DataW.trod_bool he h
  exact ⟨b, rfl, trivial⟩
theorem pick {α : Type} {p : Nat → α → Prop} : ∀ (n : Nat), (∀ i, i < n → ∃ y, p i y) → ∃ ys : List α, ys.length = n ∧ ∀ i y, ys[i]? = some y → p i y := by
  intro n
  induction n with
  | zero => intro _; exact ⟨[], rfl, fun i y h => by simp at h⟩
  | succ n ih =>
    intro h
    obtain ⟨ys, hl, hp⟩ := ih (fun i hi => h i (by omega))
    obtain ⟨y, hy⟩ := h n (by omega)
    refine ⟨ys ++ [y], by simp [hl], fun i z hz => ?_⟩
    by_cases hi : i < n
    · rw [List.getElem?_append_left (by omega)] at hz
      exact hp i z hz
    · rw [List.getElem?_append_right (by omega)] at hz
      have : i = n := by
        rcases Nat.lt_or_ge (i - ys.length) 1 with h1 | h1
        · omega
        · rw [List.getElem?_eq_none (by simpa using h1)] at hz; cases hz
      subst this
      rw [hl, Nat.sub_self] at hz
      simp at hz
      subst hz
      exact hy
theorem op_slice {α : Type} {d : Kd α} {G : α → Prop} (ht : P.underlying t = some (.slice e)) (hc : P.cellsOf e = d.sz) (ho : Opn P W e d G) : Opn P W t (Kd.slice e d) (fun l => l.length ≤ maxLen ∧ ∀ x ∈ l, G x) := by
  intro H enc base spare held n cs x h
  rcases Deep.open_slice ht h with ⟨rfl, _⟩ | ⟨a, len, cap, m, n', D, Pl, rfl, _, hl, hm, hmm, _, hx⟩
  · exact ⟨[], ⟨none, 0, rfl, Nat.le_refl _, Kd.C_nil _ _⟩, by simp [maxLen], fun x hx => by cases hx⟩
  · obtain ⟨ys, hyl, hy⟩ := pick (p := fun i y => ∃ c, c.length = d.sz ∧ d.K W y c ∧ G y ∧ ∀ j u, c[j]? = some u → W.cell? (a.add (i * d.sz + j)) = some u) len (fun i hi => by
      have him : i < m := by rw [hmm]; split <;> omega
      obtain ⟨c, h1, h2⟩ := hx i him
      obtain ⟨y, hk, hg⟩ := ho h2
      obtain ⟨_, hcl, hcell⟩ := World.cells?_some h1
      rw [hc] at hcl hcell
      refine ⟨y, c, hcl, hk, hg, fun j u hj => ?_⟩
      have hj' : j < d.sz := by rw [← hcl]; exact (List.getElem?_eq_some_iff.1 hj).1
      have := hcell j hj'
      rw [hj] at this
      rw [← this]
      congr 1
      have e0 : ∀ p q : Nat, (a.add p).add q = a.add (p + q) := by
        intro p q
        obtain ⟨b, o, s⟩ := a
        unfold Addr.add
        by_cases hp : p = 0
        · subst hp; simp
        · by_cases hq : q = 0
          · subst hq; simp [hp]
          · simp [hp, hq]; omega
      rw [e0])
    refine ⟨ys, ⟨some a, cap, by rw [hyl], by omega, rfl, by rw [hyl]; unfold maxLen at hm; omega, fun h0 => ⟨a, rfl, fun j p hj => ?_⟩⟩, by rw [hyl]; omega, fun x hx => ?_⟩
    · obtain ⟨c, h1, h2, _, h3⟩ := hy j p hj
      exact ⟨c, h1, h2, h3⟩
    · obtain ⟨i, hi⟩ := List.getElem?_of_mem hx
      obtain ⟨c, _, _, h, _⟩ := hy i x hi
      exact h
def OpAt (P : Program) (W : World) (fs : List (TypeId × Nat)) (off : Nat) {α : Type} (d : Kd α) (G : α → Prop) : Prop :=
  ∀ {H : Type} {enc : TypeId × Value → H} {base : Nat} {spare : Nat → Bool} {held : Bool} {n : Nat} {cs : List Value}, cs.length = off + d.sz →
    (∀ f ∈ fs, ∃ x, DataW.trod enc P W base spare held n f.1 ((cs.drop f.2).take (P.cellsOf f.1)) = some x) → ∃ y : α, d.K W y (cs.drop off) ∧ G y
theorem opAt_one {off : Nat} {α : Type} {d : Kd α} {G : α → Prop} (hc : P.cellsOf e = d.sz) (h : Opn P W e d G) : OpAt P W [(e, off)] off d G := by
  intro H enc base spare held n cs hl hf
  obtain ⟨x, hx⟩ := hf (e, off) (List.mem_singleton.2 rfl)
  dsimp only at hx
  rw [hc, List.take_of_length_le (by rw [List.length_drop]; omega)] at hx
  exact h hx
theorem opAt_cons {off : Nat} {fs : List (TypeId × Nat)} {α β : Type} {d1 : Kd α} {d2 : Kd β} {G1 : α → Prop} {G2 : β → Prop} (hc : P.cellsOf e = d1.sz) (h1 : Opn P W e d1 G1) (h2 : OpAt P W fs (off + d1.sz) d2 G2) :
    OpAt P W ((e, off) :: fs) off (Kd.pair d1 d2) (fun y => G1 y.1 ∧ G2 y.2) := by
  intro H enc base spare held n cs hl hf
  have hl' : cs.length = off + (d1.sz + d2.sz) := hl
  obtain ⟨x, hx⟩ := hf (e, off) List.mem_cons_self
  dsimp only at hx
  rw [hc] at hx
  obtain ⟨y1, hk1, hg1⟩ := h1 hx
  obtain ⟨y2, hk2, hg2⟩ := h2 (cs := cs) (by omega) (fun f hf' => hf f (List.mem_cons_of_mem _ hf'))
  refine ⟨(y1, y2), ⟨(cs.drop off).take d1.sz, cs.drop (off + d1.sz), ?_, hk1, hk2⟩, hg1, hg2⟩
  rw [← List.drop_drop, List.take_append_drop]
theorem op_struct {fs : Array Field} {L : List (TypeId × Nat)} {α β : Type} {d : Kd α} {f : β → α} {g : α → β} {G : α → Prop} (ht : P.underlying t = some (.struct fs)) (hL : fs.toList.map (fun f => (f.type, f.offset)) = L) (hc : P.cellsOf t = d.sz) (hfg : ∀ y, f (g y) = y)
    (h : OpAt P W L 0 d G) : Opn P W t (Kd.iso d f) (fun x => G (f x)) := by
  intro H enc base spare held n cs x hx
  obtain ⟨xs, m, _, _, hl, hxl, hf⟩ := DataW.trod_struct ht hx
  obtain ⟨y, hk, hg⟩ := h (cs := cs) (n := m) (enc := enc) (base := base) (spare := spare) (held := held) (by rw [hl, hc]; omega) (fun q hq => by
    rw [← hL] at hq
    obtain ⟨fd, hfd, rfl⟩ := List.mem_map.1 hq
    obtain ⟨i, hi⟩ := List.getElem?_of_mem hfd
    rw [Array.getElem?_toList] at hi
    have hlt : i < xs.length := by
      have := (Array.getElem?_eq_some_iff.1 hi).1
      omega
    exact ⟨xs[i], by rw [hf i fd hi]; exact List.getElem?_eq_getElem hlt⟩)
  rw [List.drop_zero] at hk
  refine ⟨g y, ?_, ?_⟩
  · show d.K W (f (g y)) cs
    rw [hfg]; exact hk
  · show G (f (g y))
    rw [hfg]; exact hg
end
end Go.Proofs.Ytfajabboibcgpaa.RO
end
