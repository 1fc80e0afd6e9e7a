/- For the law FnTaken (laid by merge.py). -/
import Derived.Test.YtmfipefpmjcddaaMFnTakend
import Derived.Laws.BitsLemmas
section
namespace Go.Proofs.Ytmfipefpmjcddaa.PA
open Go.RowKit Go.Proofs.YtmfipefpmjcddaaW.PrintWords Go.Proofs.YtmfipefpmjcddaaW.PrintLast Go.Proofs.YtmfipefpmjcddaaW.PrintMore
attribute [local go_sem] max2_int min2_int max_two min_two max_three min_three max_four min_four
set_option linter.unusedVariables false
set_option linter.unusedSimpArgs false
set_option maxHeartbeats 60000000
set_option maxRecDepth 100000
mutual
def laws_FnTaken.j0 : Nat → List Int → List (S35) → Int → List (S35) → Bool → Bool → Option (Bool)
 | 0, _, _, _, _, _, _ => none
 | k + 1, x1, x5, x6, x7, x8, x76 => if x76 = true then (some false) else (if x8 = true then ((impl_ShelfDigest.f k x5).bind fun bt10 => ((impl_ShelfDigest.f k x7).bind fun bt11 => ((impl_BodyAt.f k x7 x6).bind fun bt12 => ((impl_GoodShelf.f k x7).bind fun t14 => (if t14 = true then (if bt10.2 = true then (if bt11.2 = true then (if bt10.1.toList = bt11.1.toList then (if bt12.2.2 = true then (if bt12.2.1 = true then (laws_FnTaken.j1 k x1 x5 x6 x7 bt11.1 true) else (laws_FnTaken.j1 k x1 x5 x6 x7 bt11.1 (bt12.1.toList != ([] : List UInt8)))) else (laws_FnTaken.j1 k x1 x5 x6 x7 bt11.1 true)) else (laws_FnTaken.j1 k x1 x5 x6 x7 bt11.1 true)) else (laws_FnTaken.j1 k x1 x5 x6 x7 bt11.1 true)) else (laws_FnTaken.j1 k x1 x5 x6 x7 bt11.1 true)) else (laws_FnTaken.j1 k x1 x5 x6 x7 bt11.1 true)))))) else ((spec_DrawBodyAt.f k x1).bind fun bt15 => ((impl_BodyAt.f k bt15.1 bt15.2).bind fun bt16 => ((spec_BodyAt.f k bt15.1 bt15.2).bind fun bt17 => (if (bt16.2.2 == bt17.2.2) = true then (if (bt16.2.1 == bt17.2.1) = true then (some (bt16.1.toList == bt17.1.toList)) else (some false)) else (some false))))))
def laws_FnTaken.j1 : Nat → List Int → List (S35) → Int → List (S35) → ByteArray → Bool → Option (Bool)
 | 0, _, _, _, _, _, _ => none
 | k + 1, x1, x5, x6, x7, x13, x18 => if x18 = true then (some false) else (laws_FnTaken.l0 k x1 x5 x6 x7 x13 (x5.length : Int) 0)
def laws_FnTaken.l0 : Nat → List Int → List (S35) → Int → List (S35) → ByteArray → Int → Int → Option (Bool)
 | 0, _, _, _, _, _, _, _ => none
 | k + 1, x1, x5, x6, x7, x13, x19, x20 => if x20 < x19 then ((impl_ShowSlot.f k x5 x20).bind fun bt21 => ((impl_CheckSlot.f k x13 x20 bt21.1 bt21.2.1 bt21.2.2.1 bt21.2.2.2.1 bt21.2.2.2.2.1 bt21.2.2.2.2.2.1).bind fun bt22 => ((impl_BodyAt.f k x7 x20).bind fun bt23 => ((impl_BodyAt.f k x5 x20).bind fun bt24 => (if bt21.2.2.2.2.2.2 = true then (if bt22.2 = true then (if bt22.1 = true then (if bt23.2.2 = true then (if bt24.2.2 = true then (if x20 = x6 then (laws_FnTaken.l0 k x1 x5 x6 x7 x13 x19 (wrap64 (x20 + 1))) else (if bt23.1.toList = bt24.1.toList then (if (bt23.2.1 != bt24.2.1) = true then (some false) else (laws_FnTaken.l0 k x1 x5 x6 x7 x13 x19 (wrap64 (x20 + 1)))) else (some false))) else (some false)) else (some false)) else (some false)) else (some false)) else (some false)))))) else ((spec_DrawBodyAt.f k x1).bind fun bt25 => ((impl_BodyAt.f k bt25.1 bt25.2).bind fun bt26 => ((spec_BodyAt.f k bt25.1 bt25.2).bind fun bt27 => (if (bt26.2.2 == bt27.2.2) = true then (if (bt26.2.1 == bt27.2.1) = true then (some (bt26.1.toList == bt27.1.toList)) else (some false)) else (some false)))))
end
def laws_FnTaken.f (k : Nat) (l0 : List Int) (l1 : List Int) : Option (Bool) := if (wrap64 ((l0.length : Int) + (l1.length : Int))) > 1048576 then (some true) else ((spec_DrawTakeOut.f k l0).bind fun bt10 => ((impl_TakeOut.f k bt10.1 bt10.2).bind fun bt11 => ((spec_TakeOut.f k bt10.1 bt10.2).bind fun bt12 => (if (bt11.2 != bt12.2) = true then (laws_FnTaken.j0 k l1 bt10.1 bt10.2 bt11.1 bt11.2 true) else ((laws_sameSlots.f k bt11.1 bt12.1).bind fun t13 => (if t13 = true then ((impl_GoodShelf.f k bt10.1).bind fun t14 => ((spec_GoodShelf.f k bt10.1).bind fun t15 => (laws_FnTaken.j0 k l1 bt10.1 bt10.2 bt11.1 bt11.2 (t14 != t15)))) else (laws_FnTaken.j0 k l1 bt10.1 bt10.2 bt11.1 bt11.2 true)))))))
theorem laws_FnTaken.calls (k : Nat) (A0 : Option Addr) (c0 : Nat) (l0 : List Int) (A1 : Option Addr) (c1 : Nat) (l1 : List Int) (r : Bool) (w : World) (hr0 : Kd.C (Kd.int .u8) w A0 l0.length l0) (hc0 : l0.length ≤ c0) (hr1 : Kd.C (Kd.int .u8) w A1 l1.length l1) (hc1 : l1.length ≤ c1) (h : laws_FnTaken.f k l0 l1 = some r) :
  Calls Try.prog 3 #[.slice A0 l0.length c0, .slice A1 l1.length c1] w fun e w' => e = .returned (.bool r) ∧ Below w.heap.size w w' := by
 have hu35 := Try.underlying35; have HR0 := zA hr0; have HC0 := zA hc0; clear hr0 hc0; have HR1 := zA hr1; have HC1 := zA hc1; clear hr1 hc1; have HB := zA (Below.refl w.heap.size w); have H : (if (wrap64 ((l0.length : Int) + (l1.length : Int))) > 1048576 then (some true) else ((spec_DrawTakeOut.f k l0).bind fun bt100 => ((impl_TakeOut.f k bt100.1 bt100.2).bind fun bt337 => ((spec_TakeOut.f k bt100.1 bt100.2).bind fun bt341 => (if (bt337.2 != bt341.2) = true then (laws_FnTaken.j0 k l1 bt100.1 bt100.2 bt337.1 bt337.2 true) else ((laws_sameSlots.f k bt337.1 bt341.1).bind fun t345 => (if t345 = true then ((impl_GoodShelf.f k bt100.1).bind fun t346 => ((spec_GoodShelf.f k bt100.1).bind fun t347 => (laws_FnTaken.j0 k l1 bt100.1 bt100.2 bt337.1 bt337.2 (t346 != t347)))) else (laws_FnTaken.j0 k l1 bt100.1 bt100.2 bt337.1 bt337.2 true)))))))) = some r := h; clear h
 by_cases c3 : (wrap64 ((l0.length : Int) + (l1.length : Int))) > 1048576
 ·rw [if_pos c3] at H
  have c3b0 : decide (1048576 < (wrap64 ((l0.length : Int) + (l1.length : Int)))) = true := zX c3; clear c3
  as_aux_lemma =>
   obtain rfl := Option.some.inj H; go_enter Try.func3, Try.ntmps3; go_wp2; go_ret; exact ⟨by first | rfl | (simp <;> rfl) | (simp [*] <;> rfl), by (with_reducible repeat first | exact HB.out | apply zH | apply zF | apply zG) <;> exact HB.out⟩
 ·rw [if_neg c3] at H
  have c3b0 : decide (1048576 < (wrap64 ((l0.length : Int) + (l1.length : Int)))) = false := decide_eq_false c3; clear c3; replace H := zAF H; obtain ⟨⟨t100, t334⟩, A40, H⟩ := H; replace H : ((impl_TakeOut.f k t100 t334).bind fun bt337 => ((spec_TakeOut.f k t100 t334).bind fun bt341 => (if (bt337.2 != bt341.2) = true then (laws_FnTaken.j0 k l1 t100 t334 bt337.1 bt337.2 true) else ((laws_sameSlots.f k bt337.1 bt341.1).bind fun t345 => (if t345 = true then ((impl_GoodShelf.f k t100).bind fun t346 => ((spec_GoodShelf.f k t100).bind fun t347 => (laws_FnTaken.j0 k l1 t100 t334 bt337.1 bt337.2 (t346 != t347)))) else (laws_FnTaken.j0 k l1 t100 t334 bt337.1 bt337.2 true)))))) = some r := H; have A4 := zA A40; clear A40; replace H := zAF H; obtain ⟨⟨t337, t338⟩, A50, H⟩ := H; replace H : ((spec_TakeOut.f k t100 t334).bind fun bt341 => (if (t338 != bt341.2) = true then (laws_FnTaken.j0 k l1 t100 t334 t337 t338 true) else ((laws_sameSlots.f k t337 bt341.1).bind fun t345 => (if t345 = true then ((impl_GoodShelf.f k t100).bind fun t346 => ((spec_GoodShelf.f k t100).bind fun t347 => (laws_FnTaken.j0 k l1 t100 t334 t337 t338 (t346 != t347)))) else (laws_FnTaken.j0 k l1 t100 t334 t337 t338 true))))) = some r := H; have A5 := zA A50; clear A50; replace H := zAF H; obtain ⟨⟨t341, t342⟩, A60, H⟩ := H; replace H : (if (t338 != t342) = true then (laws_FnTaken.j0 k l1 t100 t334 t337 t338 true) else ((laws_sameSlots.f k t337 t341).bind fun t345 => (if t345 = true then ((impl_GoodShelf.f k t100).bind fun t346 => ((spec_GoodShelf.f k t100).bind fun t347 => (laws_FnTaken.j0 k l1 t100 t334 t337 t338 (t346 != t347)))) else (laws_FnTaken.j0 k l1 t100 t334 t337 t338 true)))) = some r := H; have A6 := zA A60; clear A60; have HC7 := zA H; clear H; go_enter Try.func3, Try.ntmps3; go_upto_region 6 with (first | ((with_reducible refine yB (f := 10) rfl ?_); refine goesL_ (some 46) rfl rfl Try.func10 (by kernel_rfl) rfl #[.slice A0 l0.length c0] rfl (by (try simp only [zAA, zAB, zAC]); first | done | rfl | (simp only [zZ, zY]; rfl)) ?_; (with_reducible refine (spec_DrawTakeOut.calls k _ _ l0 t100 t334 _ ?side1 ?side2 A4.out).mono ?_); (case side1 => repeat (first | exact HR0.out | (with_reducible refine zT ?_ _) | (with_reducible refine zU ?_ _) | (with_reducible refine zV ?_))); (case side2 => exact HC0.out); rintro e w8 ⟨v335, rfl, ho0, hb⟩; refine ⟨_, rfl, ?_⟩; have n0_ := zA (Kd.R_lower ho0 (zAE (by (with_reducible repeat first | exact HB.out | apply zH | apply zF | apply zG) <;> exact HB.out))); have n1_ := zA (zAD (by (with_reducible repeat first | exact HB.out | apply zH | apply zF | apply zG) <;> exact HB.out) hb); clear HB; have HO336 := n0_; have HB := n1_; clear n0_ n1_; (try clear hb); (try clear ho0); obtain ⟨Ao9, co9, eo9⟩ := Kd.R_slice HO336.out; subst eo9) | ((with_reducible refine yB (f := 11) rfl ?_); refine goesL_ (some 52) rfl rfl Try.func11 (by kernel_rfl) rfl #[.slice Ao9 t100.length co9, .int .i64 t334] rfl (by (try simp only [zAA, zAB, zAC]); first | done | rfl | (simp only [zZ, zY]; rfl)) ?_; (with_reducible refine (impl_TakeOut.calls k _ _ t100 t334 t337 t338 _ ?side1 ?side2 A5.out).mono ?_); (case side1 => repeat (first | exact (yD HO336.out).2.2 | (with_reducible refine zT ?_ _) | (with_reducible refine zU ?_ _) | (with_reducible refine zV ?_))); (case side2 => exact (yD HO336.out).2.1); rintro e w10 ⟨v339, rfl, ho0, hb⟩; refine ⟨_, rfl, ?_⟩; have n0_ := zA (yJ (by (with_reducible repeat first | apply zQ | apply zR | apply zS); exact HO336.out) (Kd.R_base ho0) hb); have n1_ := zA (Kd.R_lower (yK ho0 (Kd.R_lt (by (with_reducible repeat first | apply zQ | apply zR | apply zS); exact HO336.out))) (zAE (by (with_reducible repeat first | exact HB.out | apply zH | apply zF | apply zG) <;> exact HB.out))); have n2_ := zA (zAD (by (with_reducible repeat first | exact HB.out | apply zH | apply zF | apply zG) <;> exact HB.out) hb); clear HO336; clear HB; have HO336 := n0_; have HO340 := n1_; have HB := n2_; clear n0_ n1_ n2_; (try clear hb); (try clear ho0)) | ((with_reducible refine yB (f := 12) rfl ?_); refine goesL_ (some 58) rfl rfl Try.func12 (by kernel_rfl) rfl #[.slice Ao9 t100.length co9, .int .i64 t334] rfl (by (try simp only [zAA, zAB, zAC]); first | done | rfl | (simp only [zZ, zY]; rfl)) ?_; (with_reducible refine (spec_TakeOut.calls k _ _ t100 t334 t341 t342 _ ?side1 ?side2 A6.out).mono ?_); (case side1 => repeat (first | exact (yD HO336.out).2.2 | (with_reducible refine zT ?_ _) | (with_reducible refine zU ?_ _) | (with_reducible refine zV ?_))); (case side2 => exact (yD HO336.out).2.1); rintro e w11 ⟨v343, rfl, ho0, hb⟩; refine ⟨_, rfl, ?_⟩; have n0_ := zA (yJ (by (with_reducible repeat first | apply zQ | apply zR | apply zS); exact HO336.out) (Kd.R_base ho0) hb); have n1_ := zA (yJ (by (with_reducible repeat first | apply zQ | apply zR | apply zS); exact HO340.out) (Kd.R_base ho0) hb); have n2_ := zA (Kd.R_lower (yK (yK ho0 (Kd.R_lt (by (with_reducible repeat first | apply zQ | apply zR | apply zS); exact HO336.out))) (Kd.R_lt (by (with_reducible repeat first | apply zQ | apply zR | apply zS); exact HO340.out))) (zAE (by (with_reducible repeat first | exact HB.out | apply zH | apply zF | apply zG) <;> exact HB.out))); have n3_ := zA (zAD (by (with_reducible repeat first | exact HB.out | apply zH | apply zF | apply zG) <;> exact HB.out) hb); clear HO336; clear HO340; clear HB; have HO336 := n0_; have HO340 := n1_; have HO344 := n2_; have HB := n3_; clear n0_ n1_ n2_ n3_; (try clear hb); (try clear ho0)))
  (try simp only [Act.put, zC, zD, zE]); go_cut [76] (fun v76 wc => ∃ (kq : Nat) (x76_6 : Bool), v76 = .bool x76_6 ∧ Aside0 (laws_FnTaken.j0 kq l1 t100 t334 t337 t338 x76_6 = some r) ∧ Aside0 (kq ≤ k) ∧ Aside0 (Kd.R k35 35 wc w.heap.size (fun k_ => some k_ ≠ (v339 : Value).ownBlock) (.slice Ao9 t100.length co9) t100) ∧ Aside0 (Kd.R k35 35 wc w.heap.size (fun k_ => some k_ ≠ ((.slice Ao9 t100.length co9) : Value).ownBlock) v339 t337) ∧ Aside0 (Below w.heap.size w wc))
  case first =>
   have H := HC7.out; clear HC7
   by_cases c12 : (t338 != t342) = true
   ·rw [if_pos c12] at H
    have c12b0 : (t338 != t342) = true := c12; (try (have c12b1 : decide (t338 = t342) = false := by simpa using c12)); (try (have c12b2 : (t338 == t342) = false := by simpa using c12)); (try (have c12b3 : ¬ (t338 = t342) := by simpa using c12)); clear c12; (first | rw [c12b0] | (simp only [i64_w, i32_w]; rw [c12b0]) | skip)
    as_aux_lemma =>
     have H' := zA H; clear H; go_wp2; go_meet
     case rel => exact ⟨_, (true), (by first | rfl | (simp; done) | (simp [*]; done) | (simp [bne]; done)), H', ⟨by first | omega | exact Nat.le_refl _⟩, ⟨by (with_reducible repeat first | apply zQ | apply zR | apply zS); exact yC HO336.out (fun _ hk => hk.1.2)⟩, ⟨by (with_reducible repeat first | apply zQ | apply zR | apply zS); exact yC HO340.out (fun _ hk => hk.1.2)⟩, ⟨by (with_reducible repeat first | exact HB.out | apply zH | apply zF | apply zG) <;> exact HB.out⟩⟩
   ·rw [if_neg c12] at H
    have c12b0 : (t338 != t342) = false := by simpa using c12
    (try (have c12b1 : decide (t338 = t342) = true := by simpa using c12)); (try (have c12b2 : (t338 == t342) = true := by simpa using c12)); clear c12; (first | rw [c12b0] | (simp only [i64_w, i32_w]; rw [c12b0]) | skip); replace H := zAF H; obtain ⟨t345, A130, H⟩ := H; replace H : (if t345 = true then ((impl_GoodShelf.f k t100).bind fun t346 => ((spec_GoodShelf.f k t100).bind fun t347 => (laws_FnTaken.j0 k l1 t100 t334 t337 t338 (t346 != t347)))) else (laws_FnTaken.j0 k l1 t100 t334 t337 t338 true)) = some r := H; have A13 := zA A130; clear A130
    by_cases c14 : t345 = true
    ·subst c14
     have H1 : ((impl_GoodShelf.f k t100).bind fun t346 => ((spec_GoodShelf.f k t100).bind fun t347 => (laws_FnTaken.j0 k l1 t100 t334 t337 t338 (t346 != t347)))) = some r := by rw [if_pos rfl] at H; exact H
     clear H; have H := H1; clear H1; replace H := zAF H; obtain ⟨t346, A150, H⟩ := H; replace H : ((spec_GoodShelf.f k t100).bind fun t347 => (laws_FnTaken.j0 k l1 t100 t334 t337 t338 (t346 != t347))) = some r := H; have A15 := zA A150; clear A150; replace H := zAF H; obtain ⟨t347, A160, H⟩ := H; replace H : (laws_FnTaken.j0 k l1 t100 t334 t337 t338 (t346 != t347)) = some r := H; have A16 := zA A160; clear A160
     as_aux_lemma =>
      have H' := zA H; clear H; obtain ⟨Ao17, co17, eo17⟩ := Kd.R_slice HO340.out; subst eo17; obtain ⟨Ao18, co18, eo18⟩ := Kd.R_slice HO344.out; subst eo18; go_wp2_with (first | (go_at_call 13; (with_reducible refine (laws_sameSlots.calls k _ _ t337 _ _ t341 true _ ?side1 ?side2 ?side3 ?side4 A13.out).mono ?_); (case side1 => repeat (first | exact (yD HO340.out).2.2 | (with_reducible refine zT ?_ _) | (with_reducible refine zU ?_ _) | (with_reducible refine zV ?_))); (case side2 => exact (yD HO340.out).2.1); (case side3 => repeat (first | exact (yD HO344.out).2.2 | (with_reducible refine zT ?_ _) | (with_reducible refine zU ?_ _) | (with_reducible refine zV ?_))); (case side4 => exact (yD HO344.out).2.1); rintro e w' ⟨rfl, ⟨nd, rfl⟩⟩) | (go_at_call 14; (with_reducible refine (impl_GoodShelf.calls k _ _ t100 t346 _ ?side1 ?side2 A15.out).mono ?_); (case side1 => repeat (first | exact (yD HO336.out).2.2 | (with_reducible refine zT ?_ _) | (with_reducible refine zU ?_ _) | (with_reducible refine zV ?_))); (case side2 => exact (yD HO336.out).2.1); rintro e w19 ⟨rfl, hb⟩; have n0_ := zA (Kd.R_below (by (with_reducible repeat first | apply zQ | apply zR | apply zS); exact HO336.out) hb); have n1_ := zA (Kd.R_below (by (with_reducible repeat first | apply zQ | apply zR | apply zS); exact HO340.out) hb); have n2_ := zA (Kd.R_below (by (with_reducible repeat first | apply zQ | apply zR | apply zS); exact HO344.out) hb); have n3_ := zA (zAD (by (with_reducible repeat first | exact HB.out | apply zH | apply zF | apply zG) <;> exact HB.out) hb); clear HO336; clear HO340; clear HO344; clear HB; have HO336 := n0_; have HO340 := n1_; have HO344 := n2_; have HB := n3_; clear n0_ n1_ n2_ n3_; (try clear hb)) | (go_at_call 15; (with_reducible refine (spec_GoodShelf.calls k _ _ t100 t347 _ ?side1 ?side2 A16.out).mono ?_); (case side1 => repeat (first | exact (yD HO336.out).2.2 | (with_reducible refine zT ?_ _) | (with_reducible refine zU ?_ _) | (with_reducible refine zV ?_))); (case side2 => exact (yD HO336.out).2.1); rintro e w20 ⟨rfl, hb⟩; have n0_ := zA (Kd.R_below (by (with_reducible repeat first | apply zQ | apply zR | apply zS); exact HO336.out) hb); have n1_ := zA (Kd.R_below (by (with_reducible repeat first | apply zQ | apply zR | apply zS); exact HO340.out) hb); have n2_ := zA (Kd.R_below (by (with_reducible repeat first | apply zQ | apply zR | apply zS); exact HO344.out) hb); have n3_ := zA (zAD (by (with_reducible repeat first | exact HB.out | apply zH | apply zF | apply zG) <;> exact HB.out) hb); clear HO336; clear HO340; clear HO344; clear HB; have HO336 := n0_; have HO340 := n1_; have HO344 := n2_; have HB := n3_; clear n0_ n1_ n2_ n3_; (try clear hb))); go_meet
      case rel => exact ⟨_, ((t346 != t347)), (by first | rfl | (simp; done) | (simp [*]; done) | (simp [bne]; done)), H', ⟨by first | omega | exact Nat.le_refl _⟩, ⟨by (with_reducible repeat first | apply zQ | apply zR | apply zS); exact yC HO336.out (fun _ hk => hk.1.2)⟩, ⟨by (with_reducible repeat first | apply zQ | apply zR | apply zS); exact yC HO340.out (fun _ hk => hk.1.2)⟩, ⟨by (with_reducible repeat first | exact HB.out | apply zH | apply zF | apply zG) <;> exact HB.out⟩⟩
    ·replace c14 := Bool.eq_false_iff.mpr c14
     subst c14; have H1 : (laws_FnTaken.j0 k l1 t100 t334 t337 t338 true) = some r := by rw [if_neg (show ¬ (false = true) by decide)] at H; exact H
     clear H; have H := H1; clear H1
     as_aux_lemma =>
      have H' := zA H; clear H; obtain ⟨Ao21, co21, eo21⟩ := Kd.R_slice HO340.out; subst eo21; obtain ⟨Ao22, co22, eo22⟩ := Kd.R_slice HO344.out; subst eo22; go_wp2_with (first | (go_at_call 13; (with_reducible refine (laws_sameSlots.calls k _ _ t337 _ _ t341 false _ ?side1 ?side2 ?side3 ?side4 A13.out).mono ?_); (case side1 => repeat (first | exact (yD HO340.out).2.2 | (with_reducible refine zT ?_ _) | (with_reducible refine zU ?_ _) | (with_reducible refine zV ?_))); (case side2 => exact (yD HO340.out).2.1); (case side3 => repeat (first | exact (yD HO344.out).2.2 | (with_reducible refine zT ?_ _) | (with_reducible refine zU ?_ _) | (with_reducible refine zV ?_))); (case side4 => exact (yD HO344.out).2.1); rintro e w' ⟨rfl, ⟨nd, rfl⟩⟩)); go_meet
      case rel => exact ⟨_, (true), (by first | rfl | (simp; done) | (simp [*]; done) | (simp [bne]; done)), H', ⟨by first | omega | exact Nat.le_refl _⟩, ⟨by (with_reducible repeat first | apply zQ | apply zR | apply zS); exact yC HO336.out (fun _ hk => hk.1.2)⟩, ⟨by (with_reducible repeat first | apply zQ | apply zR | apply zS); exact yC HO340.out (fun _ hk => hk.1.2)⟩, ⟨by (with_reducible repeat first | exact HB.out | apply zH | apply zF | apply zG) <;> exact HB.out⟩⟩
  case rest =>
   clear HC7
   try clear c1
   try clear p2
   try clear c3
   try clear c3b0
   try clear p6
   try clear c10
   try clear c11
   try clear c12
   try clear c12b0
   try clear c12b1
   try clear c12b2
   try clear c14
   obtain ⟨kq, x76_6, rfl, HA, HJ6, HO_5, HO_7, HB⟩ := hcut
   cases kq with
   | zero => exact absurd HA.out (by simp [laws_FnTaken.j0])
   | succ kj6 =>
    have H := HA.out; clear HA; simp only [laws_FnTaken.j0] at H
    by_cases c23 : x76_6 = true
    ·subst c23
     have H1 : (some false) = some r := by rw [if_pos rfl] at H; exact H
     clear H; have H := H1; clear H1
     as_aux_lemma =>
      obtain rfl := Option.some.inj H; go_wp2; go_ret; exact ⟨by first | rfl | (simp <;> rfl) | (simp [*] <;> rfl), by (with_reducible repeat first | exact HB.out | apply zH | apply zF | apply zG) <;> exact HB.out⟩
    ·replace c23 := Bool.eq_false_iff.mpr c23
     subst c23; have H1 : (if t338 = true then ((impl_ShelfDigest.f kj6 t100).bind fun bt348 => ((impl_ShelfDigest.f kj6 t337).bind fun bt350 => ((impl_BodyAt.f kj6 t337 t334).bind fun bt352 => ((impl_GoodShelf.f kj6 t337).bind fun t355 => (if t355 = true then (if bt348.2 = true then (if bt350.2 = true then (if bt348.1.toList = bt350.1.toList then (if bt352.2.2 = true then (if bt352.2.1 = true then (laws_FnTaken.j1 kj6 l1 t100 t334 t337 bt350.1 true) else (laws_FnTaken.j1 kj6 l1 t100 t334 t337 bt350.1 (bt352.1.toList != ([] : List UInt8)))) else (laws_FnTaken.j1 kj6 l1 t100 t334 t337 bt350.1 true)) else (laws_FnTaken.j1 kj6 l1 t100 t334 t337 bt350.1 true)) else (laws_FnTaken.j1 kj6 l1 t100 t334 t337 bt350.1 true)) else (laws_FnTaken.j1 kj6 l1 t100 t334 t337 bt350.1 true)) else (laws_FnTaken.j1 kj6 l1 t100 t334 t337 bt350.1 true)))))) else ((spec_DrawBodyAt.f kj6 l1).bind fun bt384 => ((impl_BodyAt.f kj6 bt384.1 bt384.2).bind fun bt388 => ((spec_BodyAt.f kj6 bt384.1 bt384.2).bind fun bt391 => (if (bt388.2.2 == bt391.2.2) = true then (if (bt388.2.1 == bt391.2.1) = true then (some (bt388.1.toList == bt391.1.toList)) else (some false)) else (some false)))))) = some r := by rw [if_neg (show ¬ (false = true) by decide)] at H; exact H
     clear H; have H := H1; clear H1
     by_cases c24 : t338 = true
     ·subst c24
      have H1 : ((impl_ShelfDigest.f kj6 t100).bind fun bt348 => ((impl_ShelfDigest.f kj6 t337).bind fun bt350 => ((impl_BodyAt.f kj6 t337 t334).bind fun bt352 => ((impl_GoodShelf.f kj6 t337).bind fun t355 => (if t355 = true then (if bt348.2 = true then (if bt350.2 = true then (if bt348.1.toList = bt350.1.toList then (if bt352.2.2 = true then (if bt352.2.1 = true then (laws_FnTaken.j1 kj6 l1 t100 t334 t337 bt350.1 true) else (laws_FnTaken.j1 kj6 l1 t100 t334 t337 bt350.1 (bt352.1.toList != ([] : List UInt8)))) else (laws_FnTaken.j1 kj6 l1 t100 t334 t337 bt350.1 true)) else (laws_FnTaken.j1 kj6 l1 t100 t334 t337 bt350.1 true)) else (laws_FnTaken.j1 kj6 l1 t100 t334 t337 bt350.1 true)) else (laws_FnTaken.j1 kj6 l1 t100 t334 t337 bt350.1 true)) else (laws_FnTaken.j1 kj6 l1 t100 t334 t337 bt350.1 true)))))) = some r := by rw [if_pos rfl] at H; exact H
      clear H; have H := H1; clear H1; replace H := zAF H; obtain ⟨⟨t348, t349⟩, A250, H⟩ := H; replace H : ((impl_ShelfDigest.f kj6 t337).bind fun bt350 => ((impl_BodyAt.f kj6 t337 t334).bind fun bt352 => ((impl_GoodShelf.f kj6 t337).bind fun t355 => (if t355 = true then (if t349 = true then (if bt350.2 = true then (if t348.toList = bt350.1.toList then (if bt352.2.2 = true then (if bt352.2.1 = true then (laws_FnTaken.j1 kj6 l1 t100 t334 t337 bt350.1 true) else (laws_FnTaken.j1 kj6 l1 t100 t334 t337 bt350.1 (bt352.1.toList != ([] : List UInt8)))) else (laws_FnTaken.j1 kj6 l1 t100 t334 t337 bt350.1 true)) else (laws_FnTaken.j1 kj6 l1 t100 t334 t337 bt350.1 true)) else (laws_FnTaken.j1 kj6 l1 t100 t334 t337 bt350.1 true)) else (laws_FnTaken.j1 kj6 l1 t100 t334 t337 bt350.1 true)) else (laws_FnTaken.j1 kj6 l1 t100 t334 t337 bt350.1 true))))) = some r := H; have A25 := zA A250; clear A250; replace H := zAF H; obtain ⟨⟨t350, t351⟩, A260, H⟩ := H; replace H : ((impl_BodyAt.f kj6 t337 t334).bind fun bt352 => ((impl_GoodShelf.f kj6 t337).bind fun t355 => (if t355 = true then (if t349 = true then (if t351 = true then (if t348.toList = t350.toList then (if bt352.2.2 = true then (if bt352.2.1 = true then (laws_FnTaken.j1 kj6 l1 t100 t334 t337 t350 true) else (laws_FnTaken.j1 kj6 l1 t100 t334 t337 t350 (bt352.1.toList != ([] : List UInt8)))) else (laws_FnTaken.j1 kj6 l1 t100 t334 t337 t350 true)) else (laws_FnTaken.j1 kj6 l1 t100 t334 t337 t350 true)) else (laws_FnTaken.j1 kj6 l1 t100 t334 t337 t350 true)) else (laws_FnTaken.j1 kj6 l1 t100 t334 t337 t350 true)) else (laws_FnTaken.j1 kj6 l1 t100 t334 t337 t350 true)))) = some r := H; have A26 := zA A260; clear A260; replace H := zAF H; obtain ⟨⟨t352, t353, t354⟩, A270, H⟩ := H; replace H : ((impl_GoodShelf.f kj6 t337).bind fun t355 => (if t355 = true then (if t349 = true then (if t351 = true then (if t348.toList = t350.toList then (if t354 = true then (if t353 = true then (laws_FnTaken.j1 kj6 l1 t100 t334 t337 t350 true) else (laws_FnTaken.j1 kj6 l1 t100 t334 t337 t350 (t352.toList != ([] : List UInt8)))) else (laws_FnTaken.j1 kj6 l1 t100 t334 t337 t350 true)) else (laws_FnTaken.j1 kj6 l1 t100 t334 t337 t350 true)) else (laws_FnTaken.j1 kj6 l1 t100 t334 t337 t350 true)) else (laws_FnTaken.j1 kj6 l1 t100 t334 t337 t350 true)) else (laws_FnTaken.j1 kj6 l1 t100 t334 t337 t350 true))) = some r := H; have A27 := zA A270; clear A270; have HC28 := zA H; clear H; go_upto_region 12 with (first | ((with_reducible refine yB (f := 16) rfl ?_); refine goesL_ (some 80) rfl rfl Try.func16 (by kernel_rfl) rfl #[.slice Ao9 t100.length co9] rfl (by (try simp only [zAA, zAB, zAC]); first | done | rfl | (simp only [zZ, zY]; rfl)) ?_; (with_reducible refine (impl_ShelfDigest.calls kj6 _ _ t100 t348 t349 _ ?side1 ?side2 A25.out).mono ?_); (case side1 => repeat (first | exact (yD HO_5.out).2.2 | (with_reducible refine zT ?_ _) | (with_reducible refine zU ?_ _) | (with_reducible refine zV ?_))); (case side2 => exact (yD HO_5.out).2.1); rintro e w29 ⟨rfl, hb⟩; refine ⟨_, rfl, ?_⟩; have n0_ := zA (Kd.R_below (by (with_reducible repeat first | apply zQ | apply zR | apply zS); exact HO_5.out) hb); have n1_ := zA (Kd.R_below (by (with_reducible repeat first | apply zQ | apply zR | apply zS); exact HO_7.out) hb); have n2_ := zA (zAD (by (with_reducible repeat first | exact HB.out | apply zH | apply zF | apply zG) <;> exact HB.out) hb); clear HO_5; clear HO_7; clear HB; have HO_5 := n0_; have HO_7 := n1_; have HB := n2_; clear n0_ n1_ n2_; (try clear hb); obtain ⟨Ao30, co30, eo30⟩ := Kd.R_slice HO_7.out; subst eo30) | ((with_reducible refine yB (f := 16) rfl ?_); refine goesL_ (some 85) rfl rfl Try.func16 (by kernel_rfl) rfl #[.slice Ao30 t337.length co30] rfl (by (try simp only [zAA, zAB, zAC]); first | done | rfl | (simp only [zZ, zY]; rfl)) ?_; (with_reducible refine (impl_ShelfDigest.calls kj6 _ _ t337 t350 t351 _ ?side1 ?side2 A26.out).mono ?_); (case side1 => repeat (first | exact (yD HO_7.out).2.2 | (with_reducible refine zT ?_ _) | (with_reducible refine zU ?_ _) | (with_reducible refine zV ?_))); (case side2 => exact (yD HO_7.out).2.1); rintro e w31 ⟨rfl, hb⟩; refine ⟨_, rfl, ?_⟩; have n0_ := zA (Kd.R_below (by (with_reducible repeat first | apply zQ | apply zR | apply zS); exact HO_5.out) hb); have n1_ := zA (Kd.R_below (by (with_reducible repeat first | apply zQ | apply zR | apply zS); exact HO_7.out) hb); have n2_ := zA (zAD (by (with_reducible repeat first | exact HB.out | apply zH | apply zF | apply zG) <;> exact HB.out) hb); clear HO_5; clear HO_7; clear HB; have HO_5 := n0_; have HO_7 := n1_; have HB := n2_; clear n0_ n1_ n2_; (try clear hb)) | ((with_reducible refine yB (f := 17) rfl ?_); refine goesL_ (some 91) rfl rfl Try.func17 (by kernel_rfl) rfl #[.slice Ao30 t337.length co30, .int .i64 t334] rfl (by (try simp only [zAA, zAB, zAC]); first | done | rfl | (simp only [zZ, zY]; rfl)) ?_; (with_reducible refine (impl_BodyAt.calls kj6 _ _ t337 t334 t352 t353 t354 _ ?side1 ?side2 A27.out).mono ?_); (case side1 => repeat (first | exact (yD HO_7.out).2.2 | (with_reducible refine zT ?_ _) | (with_reducible refine zU ?_ _) | (with_reducible refine zV ?_))); (case side2 => exact (yD HO_7.out).2.1); rintro e w32 ⟨rfl, hb⟩; refine ⟨_, rfl, ?_⟩; have n0_ := zA (Kd.R_below (by (with_reducible repeat first | apply zQ | apply zR | apply zS); exact HO_5.out) hb); have n1_ := zA (Kd.R_below (by (with_reducible repeat first | apply zQ | apply zR | apply zS); exact HO_7.out) hb); have n2_ := zA (zAD (by (with_reducible repeat first | exact HB.out | apply zH | apply zF | apply zG) <;> exact HB.out) hb); clear HO_5; clear HO_7; clear HB; have HO_5 := n0_; have HO_7 := n1_; have HB := n2_; clear n0_ n1_ n2_; (try clear hb)))
      (try simp only [Act.put, zC, zD, zE]); go_cut [121] (fun v121 wc => ∃ (kq : Nat) (x121_27 : Bool), v121 = .bool x121_27 ∧ Aside0 (laws_FnTaken.j1 kq l1 t100 t334 t337 t350 x121_27 = some r) ∧ Aside0 (kq ≤ kj6) ∧ Aside0 (Kd.R k35 35 wc w.heap.size (fun k_ => some k_ ≠ ((.slice Ao30 t337.length co30) : Value).ownBlock) (.slice Ao9 t100.length co9) t100) ∧ Aside0 (Kd.R k35 35 wc w.heap.size (fun k_ => some k_ ≠ ((.slice Ao9 t100.length co9) : Value).ownBlock) (.slice Ao30 t337.length co30) t337) ∧ Aside0 (Below w.heap.size w wc))
      case first =>
       have H := HC28.out; clear HC28; replace H := zAF H; obtain ⟨t355, A330, H⟩ := H; replace H : (if t355 = true then (if t349 = true then (if t351 = true then (if t348.toList = t350.toList then (if t354 = true then (if t353 = true then (laws_FnTaken.j1 kj6 l1 t100 t334 t337 t350 true) else (laws_FnTaken.j1 kj6 l1 t100 t334 t337 t350 (t352.toList != ([] : List UInt8)))) else (laws_FnTaken.j1 kj6 l1 t100 t334 t337 t350 true)) else (laws_FnTaken.j1 kj6 l1 t100 t334 t337 t350 true)) else (laws_FnTaken.j1 kj6 l1 t100 t334 t337 t350 true)) else (laws_FnTaken.j1 kj6 l1 t100 t334 t337 t350 true)) else (laws_FnTaken.j1 kj6 l1 t100 t334 t337 t350 true)) = some r := H; have A33 := zA A330; clear A330
       by_cases c34 : t355 = true
       ·subst c34
        have H1 : (if t349 = true then (if t351 = true then (if t348.toList = t350.toList then (if t354 = true then (if t353 = true then (laws_FnTaken.j1 kj6 l1 t100 t334 t337 t350 true) else (laws_FnTaken.j1 kj6 l1 t100 t334 t337 t350 (t352.toList != ([] : List UInt8)))) else (laws_FnTaken.j1 kj6 l1 t100 t334 t337 t350 true)) else (laws_FnTaken.j1 kj6 l1 t100 t334 t337 t350 true)) else (laws_FnTaken.j1 kj6 l1 t100 t334 t337 t350 true)) else (laws_FnTaken.j1 kj6 l1 t100 t334 t337 t350 true)) = some r := by rw [if_pos rfl] at H; exact H
        clear H; have H := H1; clear H1
        by_cases c35 : t349 = true
        ·subst c35
         have H1 : (if t351 = true then (if t348.toList = t350.toList then (if t354 = true then (if t353 = true then (laws_FnTaken.j1 kj6 l1 t100 t334 t337 t350 true) else (laws_FnTaken.j1 kj6 l1 t100 t334 t337 t350 (t352.toList != ([] : List UInt8)))) else (laws_FnTaken.j1 kj6 l1 t100 t334 t337 t350 true)) else (laws_FnTaken.j1 kj6 l1 t100 t334 t337 t350 true)) else (laws_FnTaken.j1 kj6 l1 t100 t334 t337 t350 true)) = some r := by rw [if_pos rfl] at H; exact H
         clear H; have H := H1; clear H1
         by_cases c36 : t351 = true
         ·subst c36
          have H1 : (if t348.toList = t350.toList then (if t354 = true then (if t353 = true then (laws_FnTaken.j1 kj6 l1 t100 t334 t337 t350 true) else (laws_FnTaken.j1 kj6 l1 t100 t334 t337 t350 (t352.toList != ([] : List UInt8)))) else (laws_FnTaken.j1 kj6 l1 t100 t334 t337 t350 true)) else (laws_FnTaken.j1 kj6 l1 t100 t334 t337 t350 true)) = some r := by rw [if_pos rfl] at H; exact H
          clear H; have H := H1; clear H1
          by_cases c37 : t348.toList = t350.toList
          ·rw [if_pos c37] at H
           have c37b0 : (t348.toList == t350.toList) = true := beq_iff_eq.mpr c37; have c37b1 : (t348.toList != t350.toList) = false := bne_eq_false_iff_eq.mpr c37; clear c37; (first | rw [c37b0] | (simp only [i64_w, i32_w]; rw [c37b0]) | skip)
           by_cases c38 : t354 = true
           ·subst c38
            have H1 : (if t353 = true then (laws_FnTaken.j1 kj6 l1 t100 t334 t337 t350 true) else (laws_FnTaken.j1 kj6 l1 t100 t334 t337 t350 (t352.toList != ([] : List UInt8)))) = some r := by rw [if_pos rfl] at H; exact H
            clear H; have H := H1; clear H1
            by_cases c39 : t353 = true
            ·subst c39
             have H1 : (laws_FnTaken.j1 kj6 l1 t100 t334 t337 t350 true) = some r := by rw [if_pos rfl] at H; exact H
             clear H; have H := H1; clear H1
             as_aux_lemma =>
              have H' := zA H; clear H; go_wp2_with (first | ((with_reducible refine yB (f := 14) rfl ?_); refine goesL_ (some 96) rfl rfl Try.func14 (by kernel_rfl) rfl #[.slice Ao30 t337.length co30] rfl (by (try simp only [zAA, zAB, zAC]); first | done | rfl | (simp only [zZ, zY]; rfl)) ?_; (with_reducible refine (impl_GoodShelf.calls kj6 _ _ t337 true _ ?side1 ?side2 A33.out).mono ?_); (case side1 => repeat (first | exact (yD HO_7.out).2.2 | (with_reducible refine zT ?_ _) | (with_reducible refine zU ?_ _) | (with_reducible refine zV ?_))); (case side2 => exact (yD HO_7.out).2.1); rintro e w40 ⟨rfl, hb⟩; refine ⟨_, rfl, ?_⟩; have n0_ := zA (Kd.R_below (by (with_reducible repeat first | apply zQ | apply zR | apply zS); exact HO_5.out) hb); have n1_ := zA (Kd.R_below (by (with_reducible repeat first | apply zQ | apply zR | apply zS); exact HO_7.out) hb); have n2_ := zA (zAD (by (with_reducible repeat first | exact HB.out | apply zH | apply zF | apply zG) <;> exact HB.out) hb); clear HO_5; clear HO_7; clear HB; have HO_5 := n0_; have HO_7 := n1_; have HB := n2_; clear n0_ n1_ n2_; (try clear hb))); go_meet
              case rel => exact ⟨_, (true), (by first | rfl | (simp; done) | (simp [*]; done) | (simp [bne]; done)), H', ⟨by have := HJ6.out; first | omega | exact Nat.le_refl _⟩, ⟨by (with_reducible repeat first | apply zQ | apply zR | apply zS); exact HO_5.out⟩, ⟨by (with_reducible repeat first | apply zQ | apply zR | apply zS); exact HO_7.out⟩, ⟨by (with_reducible repeat first | exact HB.out | apply zH | apply zF | apply zG) <;> exact HB.out⟩⟩
            ·replace c39 := Bool.eq_false_iff.mpr c39
             subst c39; have H1 : (laws_FnTaken.j1 kj6 l1 t100 t334 t337 t350 (t352.toList != ([] : List UInt8))) = some r := by rw [if_neg (show ¬ (false = true) by decide)] at H; exact H
             clear H; have H := H1; clear H1
             as_aux_lemma =>
              have H' := zA H; clear H; go_wp2_with (first | ((with_reducible refine yB (f := 14) rfl ?_); refine goesL_ (some 96) rfl rfl Try.func14 (by kernel_rfl) rfl #[.slice Ao30 t337.length co30] rfl (by (try simp only [zAA, zAB, zAC]); first | done | rfl | (simp only [zZ, zY]; rfl)) ?_; (with_reducible refine (impl_GoodShelf.calls kj6 _ _ t337 true _ ?side1 ?side2 A33.out).mono ?_); (case side1 => repeat (first | exact (yD HO_7.out).2.2 | (with_reducible refine zT ?_ _) | (with_reducible refine zU ?_ _) | (with_reducible refine zV ?_))); (case side2 => exact (yD HO_7.out).2.1); rintro e w41 ⟨rfl, hb⟩; refine ⟨_, rfl, ?_⟩; have n0_ := zA (Kd.R_below (by (with_reducible repeat first | apply zQ | apply zR | apply zS); exact HO_5.out) hb); have n1_ := zA (Kd.R_below (by (with_reducible repeat first | apply zQ | apply zR | apply zS); exact HO_7.out) hb); have n2_ := zA (zAD (by (with_reducible repeat first | exact HB.out | apply zH | apply zF | apply zG) <;> exact HB.out) hb); clear HO_5; clear HO_7; clear HB; have HO_5 := n0_; have HO_7 := n1_; have HB := n2_; clear n0_ n1_ n2_; (try clear hb))); go_meet
              case rel => exact ⟨_, ((t352.toList != ([] : List UInt8))), (by first | rfl | (simp; done) | (simp [*]; done) | (simp [bne]; done)), H', ⟨by have := HJ6.out; first | omega | exact Nat.le_refl _⟩, ⟨by (with_reducible repeat first | apply zQ | apply zR | apply zS); exact HO_5.out⟩, ⟨by (with_reducible repeat first | apply zQ | apply zR | apply zS); exact HO_7.out⟩, ⟨by (with_reducible repeat first | exact HB.out | apply zH | apply zF | apply zG) <;> exact HB.out⟩⟩
           ·replace c38 := Bool.eq_false_iff.mpr c38
            subst c38; have H1 : (laws_FnTaken.j1 kj6 l1 t100 t334 t337 t350 true) = some r := by rw [if_neg (show ¬ (false = true) by decide)] at H; exact H
            clear H; have H := H1; clear H1
            as_aux_lemma =>
             have H' := zA H; clear H; go_wp2_with (first | ((with_reducible refine yB (f := 14) rfl ?_); refine goesL_ (some 96) rfl rfl Try.func14 (by kernel_rfl) rfl #[.slice Ao30 t337.length co30] rfl (by (try simp only [zAA, zAB, zAC]); first | done | rfl | (simp only [zZ, zY]; rfl)) ?_; (with_reducible refine (impl_GoodShelf.calls kj6 _ _ t337 true _ ?side1 ?side2 A33.out).mono ?_); (case side1 => repeat (first | exact (yD HO_7.out).2.2 | (with_reducible refine zT ?_ _) | (with_reducible refine zU ?_ _) | (with_reducible refine zV ?_))); (case side2 => exact (yD HO_7.out).2.1); rintro e w42 ⟨rfl, hb⟩; refine ⟨_, rfl, ?_⟩; have n0_ := zA (Kd.R_below (by (with_reducible repeat first | apply zQ | apply zR | apply zS); exact HO_5.out) hb); have n1_ := zA (Kd.R_below (by (with_reducible repeat first | apply zQ | apply zR | apply zS); exact HO_7.out) hb); have n2_ := zA (zAD (by (with_reducible repeat first | exact HB.out | apply zH | apply zF | apply zG) <;> exact HB.out) hb); clear HO_5; clear HO_7; clear HB; have HO_5 := n0_; have HO_7 := n1_; have HB := n2_; clear n0_ n1_ n2_; (try clear hb))); go_meet
             case rel => exact ⟨_, (true), (by first | rfl | (simp; done) | (simp [*]; done) | (simp [bne]; done)), H', ⟨by have := HJ6.out; first | omega | exact Nat.le_refl _⟩, ⟨by (with_reducible repeat first | apply zQ | apply zR | apply zS); exact HO_5.out⟩, ⟨by (with_reducible repeat first | apply zQ | apply zR | apply zS); exact HO_7.out⟩, ⟨by (with_reducible repeat first | exact HB.out | apply zH | apply zF | apply zG) <;> exact HB.out⟩⟩
          ·rw [if_neg c37] at H
           have c37b0 : (t348.toList == t350.toList) = false := beq_eq_false_iff_ne.mpr c37; have c37b1 : (t348.toList != t350.toList) = true := bne_iff_ne.mpr c37; (first | rw [c37b0] | (simp only [i64_w, i32_w]; rw [c37b0]) | skip)
           as_aux_lemma =>
            have H' := zA H; clear H; go_wp2_with (first | ((with_reducible refine yB (f := 14) rfl ?_); refine goesL_ (some 96) rfl rfl Try.func14 (by kernel_rfl) rfl #[.slice Ao30 t337.length co30] rfl (by (try simp only [zAA, zAB, zAC]); first | done | rfl | (simp only [zZ, zY]; rfl)) ?_; (with_reducible refine (impl_GoodShelf.calls kj6 _ _ t337 true _ ?side1 ?side2 A33.out).mono ?_); (case side1 => repeat (first | exact (yD HO_7.out).2.2 | (with_reducible refine zT ?_ _) | (with_reducible refine zU ?_ _) | (with_reducible refine zV ?_))); (case side2 => exact (yD HO_7.out).2.1); rintro e w43 ⟨rfl, hb⟩; refine ⟨_, rfl, ?_⟩; have n0_ := zA (Kd.R_below (by (with_reducible repeat first | apply zQ | apply zR | apply zS); exact HO_5.out) hb); have n1_ := zA (Kd.R_below (by (with_reducible repeat first | apply zQ | apply zR | apply zS); exact HO_7.out) hb); have n2_ := zA (zAD (by (with_reducible repeat first | exact HB.out | apply zH | apply zF | apply zG) <;> exact HB.out) hb); clear HO_5; clear HO_7; clear HB; have HO_5 := n0_; have HO_7 := n1_; have HB := n2_; clear n0_ n1_ n2_; (try clear hb))); go_meet
            case rel => exact ⟨_, (true), (by first | rfl | (simp; done) | (simp [*]; done) | (simp [bne]; done)), H', ⟨by have := HJ6.out; first | omega | exact Nat.le_refl _⟩, ⟨by (with_reducible repeat first | apply zQ | apply zR | apply zS); exact HO_5.out⟩, ⟨by (with_reducible repeat first | apply zQ | apply zR | apply zS); exact HO_7.out⟩, ⟨by (with_reducible repeat first | exact HB.out | apply zH | apply zF | apply zG) <;> exact HB.out⟩⟩
         ·replace c36 := Bool.eq_false_iff.mpr c36
          subst c36; have H1 : (laws_FnTaken.j1 kj6 l1 t100 t334 t337 t350 true) = some r := by rw [if_neg (show ¬ (false = true) by decide)] at H; exact H
          clear H; have H := H1; clear H1
          as_aux_lemma =>
           have H' := zA H; clear H; go_wp2_with (first | ((with_reducible refine yB (f := 14) rfl ?_); refine goesL_ (some 96) rfl rfl Try.func14 (by kernel_rfl) rfl #[.slice Ao30 t337.length co30] rfl (by (try simp only [zAA, zAB, zAC]); first | done | rfl | (simp only [zZ, zY]; rfl)) ?_; (with_reducible refine (impl_GoodShelf.calls kj6 _ _ t337 true _ ?side1 ?side2 A33.out).mono ?_); (case side1 => repeat (first | exact (yD HO_7.out).2.2 | (with_reducible refine zT ?_ _) | (with_reducible refine zU ?_ _) | (with_reducible refine zV ?_))); (case side2 => exact (yD HO_7.out).2.1); rintro e w44 ⟨rfl, hb⟩; refine ⟨_, rfl, ?_⟩; have n0_ := zA (Kd.R_below (by (with_reducible repeat first | apply zQ | apply zR | apply zS); exact HO_5.out) hb); have n1_ := zA (Kd.R_below (by (with_reducible repeat first | apply zQ | apply zR | apply zS); exact HO_7.out) hb); have n2_ := zA (zAD (by (with_reducible repeat first | exact HB.out | apply zH | apply zF | apply zG) <;> exact HB.out) hb); clear HO_5; clear HO_7; clear HB; have HO_5 := n0_; have HO_7 := n1_; have HB := n2_; clear n0_ n1_ n2_; (try clear hb))); go_meet
           case rel => exact ⟨_, (true), (by first | rfl | (simp; done) | (simp [*]; done) | (simp [bne]; done)), H', ⟨by have := HJ6.out; first | omega | exact Nat.le_refl _⟩, ⟨by (with_reducible repeat first | apply zQ | apply zR | apply zS); exact HO_5.out⟩, ⟨by (with_reducible repeat first | apply zQ | apply zR | apply zS); exact HO_7.out⟩, ⟨by (with_reducible repeat first | exact HB.out | apply zH | apply zF | apply zG) <;> exact HB.out⟩⟩
        ·replace c35 := Bool.eq_false_iff.mpr c35
         subst c35; have H1 : (laws_FnTaken.j1 kj6 l1 t100 t334 t337 t350 true) = some r := by rw [if_neg (show ¬ (false = true) by decide)] at H; exact H
         clear H; have H := H1; clear H1
         as_aux_lemma =>
          have H' := zA H; clear H; go_wp2_with (first | ((with_reducible refine yB (f := 14) rfl ?_); refine goesL_ (some 96) rfl rfl Try.func14 (by kernel_rfl) rfl #[.slice Ao30 t337.length co30] rfl (by (try simp only [zAA, zAB, zAC]); first | done | rfl | (simp only [zZ, zY]; rfl)) ?_; (with_reducible refine (impl_GoodShelf.calls kj6 _ _ t337 true _ ?side1 ?side2 A33.out).mono ?_); (case side1 => repeat (first | exact (yD HO_7.out).2.2 | (with_reducible refine zT ?_ _) | (with_reducible refine zU ?_ _) | (with_reducible refine zV ?_))); (case side2 => exact (yD HO_7.out).2.1); rintro e w45 ⟨rfl, hb⟩; refine ⟨_, rfl, ?_⟩; have n0_ := zA (Kd.R_below (by (with_reducible repeat first | apply zQ | apply zR | apply zS); exact HO_5.out) hb); have n1_ := zA (Kd.R_below (by (with_reducible repeat first | apply zQ | apply zR | apply zS); exact HO_7.out) hb); have n2_ := zA (zAD (by (with_reducible repeat first | exact HB.out | apply zH | apply zF | apply zG) <;> exact HB.out) hb); clear HO_5; clear HO_7; clear HB; have HO_5 := n0_; have HO_7 := n1_; have HB := n2_; clear n0_ n1_ n2_; (try clear hb))); go_meet
          case rel => exact ⟨_, (true), (by first | rfl | (simp; done) | (simp [*]; done) | (simp [bne]; done)), H', ⟨by have := HJ6.out; first | omega | exact Nat.le_refl _⟩, ⟨by (with_reducible repeat first | apply zQ | apply zR | apply zS); exact HO_5.out⟩, ⟨by (with_reducible repeat first | apply zQ | apply zR | apply zS); exact HO_7.out⟩, ⟨by (with_reducible repeat first | exact HB.out | apply zH | apply zF | apply zG) <;> exact HB.out⟩⟩
       ·replace c34 := Bool.eq_false_iff.mpr c34
        subst c34; have H1 : (laws_FnTaken.j1 kj6 l1 t100 t334 t337 t350 true) = some r := by rw [if_neg (show ¬ (false = true) by decide)] at H; exact H
        clear H; have H := H1; clear H1
        as_aux_lemma =>
         have H' := zA H; clear H; go_wp2_with (first | ((with_reducible refine yB (f := 14) rfl ?_); refine goesL_ (some 96) rfl rfl Try.func14 (by kernel_rfl) rfl #[.slice Ao30 t337.length co30] rfl (by (try simp only [zAA, zAB, zAC]); first | done | rfl | (simp only [zZ, zY]; rfl)) ?_; (with_reducible refine (impl_GoodShelf.calls kj6 _ _ t337 false _ ?side1 ?side2 A33.out).mono ?_); (case side1 => repeat (first | exact (yD HO_7.out).2.2 | (with_reducible refine zT ?_ _) | (with_reducible refine zU ?_ _) | (with_reducible refine zV ?_))); (case side2 => exact (yD HO_7.out).2.1); rintro e w46 ⟨rfl, hb⟩; refine ⟨_, rfl, ?_⟩; have n0_ := zA (Kd.R_below (by (with_reducible repeat first | apply zQ | apply zR | apply zS); exact HO_5.out) hb); have n1_ := zA (Kd.R_below (by (with_reducible repeat first | apply zQ | apply zR | apply zS); exact HO_7.out) hb); have n2_ := zA (zAD (by (with_reducible repeat first | exact HB.out | apply zH | apply zF | apply zG) <;> exact HB.out) hb); clear HO_5; clear HO_7; clear HB; have HO_5 := n0_; have HO_7 := n1_; have HB := n2_; clear n0_ n1_ n2_; (try clear hb))); go_meet
         case rel => exact ⟨_, (true), (by first | rfl | (simp; done) | (simp [*]; done) | (simp [bne]; done)), H', ⟨by have := HJ6.out; first | omega | exact Nat.le_refl _⟩, ⟨by (with_reducible repeat first | apply zQ | apply zR | apply zS); exact HO_5.out⟩, ⟨by (with_reducible repeat first | apply zQ | apply zR | apply zS); exact HO_7.out⟩, ⟨by (with_reducible repeat first | exact HB.out | apply zH | apply zF | apply zG) <;> exact HB.out⟩⟩
      case rest =>
       clear HC28
       try clear c1
       try clear c2
       try clear p2
       try clear c3
       try clear c3b0
       try clear p6
       try clear c10
       try clear c11
       try clear c12
       try clear c12b0
       try clear c12b1
       try clear c12b2
       try clear c14
       try clear c16
       try clear c17
       try clear c23
       try clear c24
       try clear c34
       try clear c35
       try clear c36
       try clear c37
       try clear c37b0
       try clear c37b1
       try clear c38
       try clear c39
       try clear p2
       try clear p6
       obtain ⟨kq, x121_27, rfl, HA, HJ27, HO_5, HO_7, HB⟩ := hcut
       cases kq with
       | zero => exact absurd HA.out (by simp [laws_FnTaken.j1])
       | succ kj27 =>
        have H := HA.out; clear HA; simp only [laws_FnTaken.j1] at H
        by_cases c47 : x121_27 = true
        ·subst c47
         have H1 : (some false) = some r := by rw [if_pos rfl] at H; exact H
         clear H; have H := H1; clear H1
         as_aux_lemma =>
          obtain rfl := Option.some.inj H; go_wp2; go_ret; exact ⟨by first | rfl | (simp <;> rfl) | (simp [*] <;> rfl), by (with_reducible repeat first | exact HB.out | apply zH | apply zF | apply zG) <;> exact HB.out⟩
        ·replace c47 := Bool.eq_false_iff.mpr c47
         subst c47; have H1 : (laws_FnTaken.l0 kj27 l1 t100 t334 t337 t350 (t100.length : Int) 0) = some r := by rw [if_neg (show ¬ (false = true) by decide)] at H; exact H
         clear H; have H := H1; clear H1; have H' := zA H; clear H; go_wp2; go_loopg [124] kj27 (fun kq v124 w' => ∃ (x124_3 : Int), v124 = .int .i64 x124_3 ∧ Aside0 (laws_FnTaken.l0 kq l1 t100 t334 t337 t350 (t100.length : Int) x124_3 = some r) ∧ Aside0 (kq ≤ kj27) ∧ Aside0 (Kd.R k35 35 w' w.heap.size (fun k_ => some k_ ≠ ((.slice Ao30 t337.length co30) : Value).ownBlock) (.slice Ao9 t100.length co9) t100) ∧ Aside0 (Kd.R k35 35 w' w.heap.size (fun k_ => some k_ ≠ ((.slice Ao9 t100.length co9) : Value).ownBlock) (.slice Ao30 t337.length co30) t337) ∧ Aside0 (Below w.heap.size w w'))
         case atStart => exact ⟨(0), (by first | rfl | (simp; done) | (simp [*]; done) | (simp [bne]; done)), H', ⟨Nat.le_refl _⟩, ⟨by (with_reducible repeat first | apply zQ | apply zR | apply zS); exact HO_5.out⟩, ⟨by (with_reducible repeat first | apply zQ | apply zR | apply zS); exact HO_7.out⟩, ⟨by (with_reducible repeat first | exact HB.out | apply zH | apply zF | apply zG) <;> exact HB.out⟩⟩
         case round =>
          clear H'
          try clear c1
          try clear c2
          try clear p2
          try clear c3
          try clear c3b0
          try clear c4
          try clear p6
          try clear c10
          try clear c11
          try clear c12
          try clear c12b0
          try clear c12b1
          try clear c12b2
          try clear c14
          try clear c16
          try clear c17
          try clear c23
          try clear c24
          try clear c34
          try clear c35
          try clear c36
          try clear c37
          try clear c37b0
          try clear c37b1
          try clear c38
          try clear c39
          try clear c47
          try clear p2
          try clear p6
          obtain ⟨x124_3, rfl, HA, HK3, HO_5, HO_7, HB⟩ := hrel
          cases gk with
          | zero => exact absurd HA.out (by simp [laws_FnTaken.l0])
          | succ k3 =>
           have H := HA.out; clear HA; simp only [laws_FnTaken.l0] at H
           by_cases c48 : x124_3 < (t100.length : Int)
           ·rw [if_pos c48] at H
            have c48b0 : decide (x124_3 < (t100.length : Int)) = true := zX c48; clear c48; replace H := zAF H; obtain ⟨⟨t366, t367, t368, t369, t370, t371, t374⟩, A490, H⟩ := H; replace H : ((impl_CheckSlot.f k3 t350 x124_3 t366 t367 t368 t369 t370 t371).bind fun bt376 => ((impl_BodyAt.f k3 t337 x124_3).bind fun bt378 => ((impl_BodyAt.f k3 t100 x124_3).bind fun bt381 => (if t374 = true then (if bt376.2 = true then (if bt376.1 = true then (if bt378.2.2 = true then (if bt381.2.2 = true then (if x124_3 = t334 then (laws_FnTaken.l0 k3 l1 t100 t334 t337 t350 (t100.length : Int) (wrap64 (x124_3 + 1))) else (if bt378.1.toList = bt381.1.toList then (if (bt378.2.1 != bt381.2.1) = true then (some false) else (laws_FnTaken.l0 k3 l1 t100 t334 t337 t350 (t100.length : Int) (wrap64 (x124_3 + 1)))) else (some false))) else (some false)) else (some false)) else (some false)) else (some false)) else (some false))))) = some r := H; have A49 := zA A490; clear A490; replace H := zAF H; obtain ⟨⟨t376, t377⟩, A500, H⟩ := H; replace H : ((impl_BodyAt.f k3 t337 x124_3).bind fun bt378 => ((impl_BodyAt.f k3 t100 x124_3).bind fun bt381 => (if t374 = true then (if t377 = true then (if t376 = true then (if bt378.2.2 = true then (if bt381.2.2 = true then (if x124_3 = t334 then (laws_FnTaken.l0 k3 l1 t100 t334 t337 t350 (t100.length : Int) (wrap64 (x124_3 + 1))) else (if bt378.1.toList = bt381.1.toList then (if (bt378.2.1 != bt381.2.1) = true then (some false) else (laws_FnTaken.l0 k3 l1 t100 t334 t337 t350 (t100.length : Int) (wrap64 (x124_3 + 1)))) else (some false))) else (some false)) else (some false)) else (some false)) else (some false)) else (some false)))) = some r := H; have A50 := zA A500; clear A500; replace H := zAF H; obtain ⟨⟨t378, t379, t380⟩, A510, H⟩ := H; replace H : ((impl_BodyAt.f k3 t100 x124_3).bind fun bt381 => (if t374 = true then (if t377 = true then (if t376 = true then (if t380 = true then (if bt381.2.2 = true then (if x124_3 = t334 then (laws_FnTaken.l0 k3 l1 t100 t334 t337 t350 (t100.length : Int) (wrap64 (x124_3 + 1))) else (if t378.toList = bt381.1.toList then (if (t379 != bt381.2.1) = true then (some false) else (laws_FnTaken.l0 k3 l1 t100 t334 t337 t350 (t100.length : Int) (wrap64 (x124_3 + 1)))) else (some false))) else (some false)) else (some false)) else (some false)) else (some false)) else (some false))) = some r := H; have A51 := zA A510; clear A510; replace H := zAF H; obtain ⟨⟨t381, t382, t383⟩, A520, H⟩ := H; replace H : (if t374 = true then (if t377 = true then (if t376 = true then (if t380 = true then (if t383 = true then (if x124_3 = t334 then (laws_FnTaken.l0 k3 l1 t100 t334 t337 t350 (t100.length : Int) (wrap64 (x124_3 + 1))) else (if t378.toList = t381.toList then (if (t379 != t382) = true then (some false) else (laws_FnTaken.l0 k3 l1 t100 t334 t337 t350 (t100.length : Int) (wrap64 (x124_3 + 1)))) else (some false))) else (some false)) else (some false)) else (some false)) else (some false)) else (some false)) = some r := H; have A52 := zA A520; clear A520
            by_cases c53 : t374 = true
            ·subst c53
             have H1 : (if t377 = true then (if t376 = true then (if t380 = true then (if t383 = true then (if x124_3 = t334 then (laws_FnTaken.l0 k3 l1 t100 t334 t337 t350 (t100.length : Int) (wrap64 (x124_3 + 1))) else (if t378.toList = t381.toList then (if (t379 != t382) = true then (some false) else (laws_FnTaken.l0 k3 l1 t100 t334 t337 t350 (t100.length : Int) (wrap64 (x124_3 + 1)))) else (some false))) else (some false)) else (some false)) else (some false)) else (some false)) = some r := by rw [if_pos rfl] at H; exact H
             clear H; have H := H1; clear H1
             by_cases c54 : t377 = true
             ·subst c54
              have H1 : (if t376 = true then (if t380 = true then (if t383 = true then (if x124_3 = t334 then (laws_FnTaken.l0 k3 l1 t100 t334 t337 t350 (t100.length : Int) (wrap64 (x124_3 + 1))) else (if t378.toList = t381.toList then (if (t379 != t382) = true then (some false) else (laws_FnTaken.l0 k3 l1 t100 t334 t337 t350 (t100.length : Int) (wrap64 (x124_3 + 1)))) else (some false))) else (some false)) else (some false)) else (some false)) = some r := by rw [if_pos rfl] at H; exact H
              clear H; have H := H1; clear H1
              by_cases c55 : t376 = true
              ·subst c55
               have H1 : (if t380 = true then (if t383 = true then (if x124_3 = t334 then (laws_FnTaken.l0 k3 l1 t100 t334 t337 t350 (t100.length : Int) (wrap64 (x124_3 + 1))) else (if t378.toList = t381.toList then (if (t379 != t382) = true then (some false) else (laws_FnTaken.l0 k3 l1 t100 t334 t337 t350 (t100.length : Int) (wrap64 (x124_3 + 1)))) else (some false))) else (some false)) else (some false)) = some r := by rw [if_pos rfl] at H; exact H
               clear H; have H := H1; clear H1
               by_cases c56 : t380 = true
               ·subst c56
                have H1 : (if t383 = true then (if x124_3 = t334 then (laws_FnTaken.l0 k3 l1 t100 t334 t337 t350 (t100.length : Int) (wrap64 (x124_3 + 1))) else (if t378.toList = t381.toList then (if (t379 != t382) = true then (some false) else (laws_FnTaken.l0 k3 l1 t100 t334 t337 t350 (t100.length : Int) (wrap64 (x124_3 + 1)))) else (some false))) else (some false)) = some r := by rw [if_pos rfl] at H; exact H
                clear H; have H := H1; clear H1
                by_cases c57 : t383 = true
                ·subst c57
                 have H1 : (if x124_3 = t334 then (laws_FnTaken.l0 k3 l1 t100 t334 t337 t350 (t100.length : Int) (wrap64 (x124_3 + 1))) else (if t378.toList = t381.toList then (if (t379 != t382) = true then (some false) else (laws_FnTaken.l0 k3 l1 t100 t334 t337 t350 (t100.length : Int) (wrap64 (x124_3 + 1)))) else (some false))) = some r := by rw [if_pos rfl] at H; exact H
                 clear H; have H := H1; clear H1
                 by_cases c58 : x124_3 = t334
                 ·rw [if_pos c58] at H
                  have c58b0 : (x124_3 == t334) = true := beq_iff_eq.mpr c58; have c58b1 : (x124_3 != t334) = false := bne_eq_false_iff_eq.mpr c58; clear c58
                  as_aux_lemma =>
                   have H' := zA H; clear H; go_wp2_with (first | ((with_reducible refine yB (f := 18) rfl ?_); refine goesL_ (some 130) rfl rfl Try.func18 (by kernel_rfl) rfl #[.slice Ao9 t100.length co9, .int .i64 x124_3] rfl (by (try simp only [zAA, zAB, zAC]); first | done | rfl | (simp only [zZ, zY]; rfl)) ?_; (with_reducible refine (impl_ShowSlot.calls k3 _ _ t100 x124_3 t366 t367 t368 t369 t370 t371 true _ ?side1 ?side2 A49.out).mono ?_); (case side1 => repeat (first | exact (yD HO_5.out).2.2 | (with_reducible refine zT ?_ _) | (with_reducible refine zU ?_ _) | (with_reducible refine zV ?_))); (case side2 => exact (yD HO_5.out).2.1); rintro e w59 ⟨v372, rfl, ho0, hb⟩; refine ⟨_, rfl, ?_⟩; have n0_ := zA (Kd.R_below (by (with_reducible repeat first | apply zQ | apply zR | apply zS); exact HO_5.out) hb); have n1_ := zA (Kd.R_below (by (with_reducible repeat first | apply zQ | apply zR | apply zS); exact HO_7.out) hb); have n2_ := zA (Kd.R_lower ho0 (zAE (by (with_reducible repeat first | exact HB.out | apply zH | apply zF | apply zG) <;> exact HB.out))); have n3_ := zA (zAD (by (with_reducible repeat first | exact HB.out | apply zH | apply zF | apply zG) <;> exact HB.out) hb); clear HO_5; clear HO_7; clear HB; have HO_5 := n0_; have HO_7 := n1_; have HO373 := n2_; have HB := n3_; clear n0_ n1_ n2_ n3_; (try clear hb); (try clear ho0)) | ((with_reducible refine gate_dst (N := 19) rfl ?_); refine box_event ?hg (N := 19) ?hd (cs := #[.string (⟨#[]⟩ : ByteArray), .string (⟨#[]⟩ : ByteArray), .string (⟨#[]⟩ : ByteArray), .string (⟨#[]⟩ : ByteArray), .bool false]) (t := 35) ?hr ?_; (case hd => rfl); (case hg => rfl); (case hr => first | (go_simp; done) | (go_simp; rfl)); intro gb375 hg w60 hbox hb; have n0_ := zA (Kd.R_below (Kd.R_elderB (by (with_reducible repeat first | apply zQ | apply zR | apply zS); exact HO_5.out) gb375 (Nat.le_of_eq hg.symm)) hb); have n1_ := zA (Kd.R_below (Kd.R_elderB (by (with_reducible repeat first | apply zQ | apply zR | apply zS); exact HO_7.out) gb375 (Nat.le_of_eq hg.symm)) hb); have n2_ := zA (Kd.R_below (by (with_reducible repeat first | apply zQ | apply zR | apply zS); exact HO373.out) hb); have n3_ := zA (zAD (by (with_reducible repeat first | exact HB.out | apply zH | apply zF | apply zG) <;> exact HB.out) hb); have n4_ := zA (hbox); have n5_ := zA ((by rw [hg]; exact (zAE (by (with_reducible repeat first | exact HB.out | apply zH | apply zF | apply zG) <;> exact HB.out)) : w.heap.size ≤ gb375)); have n6_ := zA ((by rw [hg]; exact (zAE (by (with_reducible repeat first | exact HB.out | apply zH | apply zF | apply zG) <;> exact HB.out)) : w.heap.size ≤ gb375)); clear HO_5; clear HO_7; clear HO373; clear HB; have HO_5 := n0_; have HO_7 := n1_; have HO373 := n2_; have HB := n3_; have BK375 := n4_; have GW375 := n5_; have GE375 := n6_; clear n0_ n1_ n2_ n3_ n4_ n5_ n6_; clear hb hbox hg; have hcz61_0 : w60.cell? ⟨gb375, 0, none⟩ = some (.string (⟨#[]⟩ : ByteArray)) := (zP BK375.out 0).trans rfl; have hcz61_1 : w60.cell? ⟨gb375, 1, none⟩ = some (.string (⟨#[]⟩ : ByteArray)) := (zP BK375.out 1).trans rfl; have hcz61_2 : w60.cell? ⟨gb375, 2, none⟩ = some (.string (⟨#[]⟩ : ByteArray)) := (zP BK375.out 2).trans rfl; have hcz61_3 : w60.cell? ⟨gb375, 3, none⟩ = some (.string (⟨#[]⟩ : ByteArray)) := (zP BK375.out 3).trans rfl; have hcz61_4 : w60.cell? ⟨gb375, 4, none⟩ = some (.bool false) := (zP BK375.out 4).trans rfl; have hfz61_0 := zO BK375.out 0; have hfz61_1 := zO BK375.out 1; have hfz61_2 := zO BK375.out 2; have hfz61_3 := zO BK375.out 3; have hfz61_4 := zO BK375.out 4; obtain ⟨Ao62, co62, eo62⟩ := Kd.R_slice HO373.out; subst eo62) | ((with_reducible refine yB (f := 19) rfl ?_); refine goesL_ (some 139) rfl rfl Try.func19 (by kernel_rfl) rfl #[.string t350, .int .i64 x124_3, .agg #[.string t366, .string t367, .string t368, .string t369, .bool t370], .slice Ao62 t371.length co62] rfl (by (try simp only [zAA, zAB, zAC]); first | done | rfl | (simp only [zZ, zY]; rfl)) ?_; (with_reducible refine (impl_CheckSlot.calls k3 t350 x124_3 t366 t367 t368 t369 t370 _ _ t371 true true _ ?side1 ?side2 A50.out).mono ?_); (case side1 => refine (yD (e := 9) (base := w.heap.size) (ok := fun k_ => True) (n := t371.length) (c := co62) ?_).2.2; exact (by (with_reducible repeat first | apply zQ | apply zR | apply zS); exact (yC (Kd.R_far (p := ⟨gb375, 4, none⟩) (Kd.R_far (p := ⟨gb375, 3, none⟩) (Kd.R_far (p := ⟨gb375, 2, none⟩) (Kd.R_far (p := ⟨gb375, 1, none⟩) (Kd.R_far (p := ⟨gb375, 0, none⟩) (Kd.R_types HO373.out BK375.out (by decide)) (fun _ hk => hk.2) (.string t366)) (fun _ hk => hk.2) (.string t367)) (fun _ hk => hk.2) (.string t368)) (fun _ hk => hk.2) (.string t369)) (fun _ hk => hk.2) (.bool t370)) (fun _ h_ => h_.1)))); (case side2 => exact (yD HO373.out).2.1); rintro e w63 ⟨rfl, hb⟩; refine ⟨_, rfl, ?_⟩; have n0_ := zA (Kd.R_below (by (with_reducible repeat first | apply zQ | apply zR | apply zS); exact (yC (Kd.R_far (p := ⟨gb375, 4, none⟩) (Kd.R_far (p := ⟨gb375, 3, none⟩) (Kd.R_far (p := ⟨gb375, 2, none⟩) (Kd.R_far (p := ⟨gb375, 1, none⟩) (Kd.R_far (p := ⟨gb375, 0, none⟩) (yC HO_5.out (fun k_ hk => (⟨hk, hk.2⟩ : _ ∧ k_ ≠ gb375))) (fun _ hk => hk.2) (.string t366)) (fun _ hk => hk.2) (.string t367)) (fun _ hk => hk.2) (.string t368)) (fun _ hk => hk.2) (.string t369)) (fun _ hk => hk.2) (.bool t370)) (fun _ h_ => h_.1))) hb); have n1_ := zA (Kd.R_below (by (with_reducible repeat first | apply zQ | apply zR | apply zS); exact (yC (Kd.R_far (p := ⟨gb375, 4, none⟩) (Kd.R_far (p := ⟨gb375, 3, none⟩) (Kd.R_far (p := ⟨gb375, 2, none⟩) (Kd.R_far (p := ⟨gb375, 1, none⟩) (Kd.R_far (p := ⟨gb375, 0, none⟩) (yC HO_7.out (fun k_ hk => (⟨hk, hk.2⟩ : _ ∧ k_ ≠ gb375))) (fun _ hk => hk.2) (.string t366)) (fun _ hk => hk.2) (.string t367)) (fun _ hk => hk.2) (.string t368)) (fun _ hk => hk.2) (.string t369)) (fun _ hk => hk.2) (.bool t370)) (fun _ h_ => h_.1))) hb); have n2_ := zA (Kd.R_below (by (with_reducible repeat first | apply zQ | apply zR | apply zS); exact (yC (Kd.R_far (p := ⟨gb375, 4, none⟩) (Kd.R_far (p := ⟨gb375, 3, none⟩) (Kd.R_far (p := ⟨gb375, 2, none⟩) (Kd.R_far (p := ⟨gb375, 1, none⟩) (Kd.R_far (p := ⟨gb375, 0, none⟩) (Kd.R_types HO373.out BK375.out (by decide)) (fun _ hk => hk.2) (.string t366)) (fun _ hk => hk.2) (.string t367)) (fun _ hk => hk.2) (.string t368)) (fun _ hk => hk.2) (.string t369)) (fun _ hk => hk.2) (.bool t370)) (fun _ h_ => h_.1))) hb); have n3_ := zA (yE (g := gb375) (o := .cells #[.string t366, .string t367, .string t368, .string t369, .bool t370] 35 (0, 0)) (by (with_reducible repeat (first | refine zL ?_ _ | refine zN ?_ | refine zM ?_ _)); refine blk_put (cs := #[.string t366, .string t367, .string t368, .string t369, .bool false]) ?_ 4 _ rfl; (with_reducible repeat (first | refine zL ?_ _ | refine zN ?_ | refine zM ?_ _)); refine blk_put (cs := #[.string t366, .string t367, .string t368, .string (⟨#[]⟩ : ByteArray), .bool false]) ?_ 3 _ rfl; (with_reducible repeat (first | refine zL ?_ _ | refine zN ?_ | refine zM ?_ _)); refine blk_put (cs := #[.string t366, .string t367, .string (⟨#[]⟩ : ByteArray), .string (⟨#[]⟩ : ByteArray), .bool false]) ?_ 2 _ rfl; (with_reducible repeat (first | refine zL ?_ _ | refine zN ?_ | refine zM ?_ _)); refine blk_put (cs := #[.string t366, .string (⟨#[]⟩ : ByteArray), .string (⟨#[]⟩ : ByteArray), .string (⟨#[]⟩ : ByteArray), .bool false]) ?_ 1 _ rfl; (with_reducible repeat (first | refine zL ?_ _ | refine zN ?_ | refine zM ?_ _)); refine blk_put (cs := #[.string (⟨#[]⟩ : ByteArray), .string (⟨#[]⟩ : ByteArray), .string (⟨#[]⟩ : ByteArray), .string (⟨#[]⟩ : ByteArray), .bool false]) ?_ 0 _ rfl; (with_reducible repeat (first | refine zL ?_ _ | refine zN ?_ | refine zM ?_ _)); exact BK375.out) hb); have n4_ := zA (zAD (by repeat (first | (with_reducible first | exact HB.out | apply zH | apply zF | apply zG | refine zI ?_ GE375.out) | exact HB.out)) hb); clear HO_5; clear HO_7; clear HO373; clear BK375; clear HB; have HO_5 := n0_; have HO_7 := n1_; have HO373 := n2_; have BK375 := n3_; have HB := n4_; clear n0_ n1_ n2_ n3_ n4_; (try clear hb); (try clear hk)) | ((with_reducible refine yB (f := 17) rfl ?_); refine goesL_ (some 145) rfl rfl Try.func17 (by kernel_rfl) rfl #[.slice Ao30 t337.length co30, .int .i64 x124_3] rfl (by (try simp only [zAA, zAB, zAC]); first | done | rfl | (simp only [zZ, zY]; rfl)) ?_; (with_reducible refine (impl_BodyAt.calls k3 _ _ t337 x124_3 t378 t379 true _ ?side1 ?side2 A51.out).mono ?_); (case side1 => repeat (first | exact (yD HO_7.out).2.2 | (with_reducible refine zT ?_ _) | (with_reducible refine zU ?_ _) | (with_reducible refine zV ?_))); (case side2 => exact (yD HO_7.out).2.1); rintro e w64 ⟨rfl, hb⟩; refine ⟨_, rfl, ?_⟩; have n0_ := zA (Kd.R_below (by (with_reducible repeat first | apply zQ | apply zR | apply zS); exact HO_5.out) hb); have n1_ := zA (Kd.R_below (by (with_reducible repeat first | apply zQ | apply zR | apply zS); exact HO_7.out) hb); have n2_ := zA (Kd.R_below (by (with_reducible repeat first | apply zQ | apply zR | apply zS); exact HO373.out) hb); have n3_ := zA (yE (g := gb375) (o := .cells #[.string t366, .string t367, .string t368, .string t369, .bool t370] 35 (0, 0)) (by (with_reducible repeat (first | refine zL ?_ _ | refine zN ?_ | refine zM ?_ _)); exact BK375.out) hb); have n4_ := zA (zAD (by repeat (first | (with_reducible first | exact HB.out | apply zH | apply zF | apply zG | refine zI ?_ GE375.out) | exact HB.out)) hb); clear HO_5; clear HO_7; clear HO373; clear BK375; clear HB; have HO_5 := n0_; have HO_7 := n1_; have HO373 := n2_; have BK375 := n3_; have HB := n4_; clear n0_ n1_ n2_ n3_ n4_; (try clear hb)) | ((with_reducible refine yB (f := 17) rfl ?_); refine goesL_ (some 152) rfl rfl Try.func17 (by kernel_rfl) rfl #[.slice Ao9 t100.length co9, .int .i64 x124_3] rfl (by (try simp only [zAA, zAB, zAC]); first | done | rfl | (simp only [zZ, zY]; rfl)) ?_; (with_reducible refine (impl_BodyAt.calls k3 _ _ t100 x124_3 t381 t382 true _ ?side1 ?side2 A52.out).mono ?_); (case side1 => repeat (first | exact (yD HO_5.out).2.2 | (with_reducible refine zT ?_ _) | (with_reducible refine zU ?_ _) | (with_reducible refine zV ?_))); (case side2 => exact (yD HO_5.out).2.1); rintro e w65 ⟨rfl, hb⟩; refine ⟨_, rfl, ?_⟩; have n0_ := zA (Kd.R_below (by (with_reducible repeat first | apply zQ | apply zR | apply zS); exact HO_5.out) hb); have n1_ := zA (Kd.R_below (by (with_reducible repeat first | apply zQ | apply zR | apply zS); exact HO_7.out) hb); have n2_ := zA (Kd.R_below (by (with_reducible repeat first | apply zQ | apply zR | apply zS); exact HO373.out) hb); have n3_ := zA (yE (g := gb375) (o := .cells #[.string t366, .string t367, .string t368, .string t369, .bool t370] 35 (0, 0)) (by (with_reducible repeat (first | refine zL ?_ _ | refine zN ?_ | refine zM ?_ _)); exact BK375.out) hb); have n4_ := zA (zAD (by repeat (first | (with_reducible first | exact HB.out | apply zH | apply zF | apply zG | refine zI ?_ GE375.out) | exact HB.out)) hb); clear HO_5; clear HO_7; clear HO373; clear BK375; clear HB; have HO_5 := n0_; have HO_7 := n1_; have HO373 := n2_; have BK375 := n3_; have HB := n4_; clear n0_ n1_ n2_ n3_ n4_; (try clear hb)))
                   go_roundg k3
                   case measure => have := HJ6.out; have := HJ27.out; have := HK3.out; omega
                   case rel => exact ⟨(wrap64 (x124_3 + 1)), (by first | rfl | (simp; done) | (simp [*]; done) | (simp [bne]; done)), H', ⟨by have := HJ6.out; have := HJ27.out; have := HK3.out; omega⟩, ⟨by (with_reducible repeat first | apply zQ | apply zR | apply zS); exact yC HO_5.out (fun _ hk => hk.1)⟩, ⟨by (with_reducible repeat first | apply zQ | apply zR | apply zS); exact yC HO_7.out (fun _ hk => hk.1)⟩, ⟨by repeat (first | (with_reducible first | exact HB.out | apply zH | apply zF | apply zG | refine zI ?_ GE375.out) | exact HB.out)⟩⟩
                 ·rw [if_neg c58] at H
                  have c58b0 : (x124_3 == t334) = false := beq_eq_false_iff_ne.mpr c58; have c58b1 : (x124_3 != t334) = true := bne_iff_ne.mpr c58
                  by_cases c66 : t378.toList = t381.toList
                  ·rw [if_pos c66] at H
                   have c66b0 : (t378.toList == t381.toList) = true := beq_iff_eq.mpr c66; have c66b1 : (t378.toList != t381.toList) = false := bne_eq_false_iff_eq.mpr c66; clear c66
                   by_cases c67 : (t379 != t382) = true
                   ·rw [if_pos c67] at H
                    have c67b0 : (t379 != t382) = true := c67; (try (have c67b1 : decide (t379 = t382) = false := by simpa using c67)); (try (have c67b2 : (t379 == t382) = false := by simpa using c67)); (try (have c67b3 : ¬ (t379 = t382) := by simpa using c67)); clear c67
                    as_aux_lemma =>
                     obtain rfl := Option.some.inj H; go_wp2_with (first | ((with_reducible refine yB (f := 18) rfl ?_); refine goesL_ (some 130) rfl rfl Try.func18 (by kernel_rfl) rfl #[.slice Ao9 t100.length co9, .int .i64 x124_3] rfl (by (try simp only [zAA, zAB, zAC]); first | done | rfl | (simp only [zZ, zY]; rfl)) ?_; (with_reducible refine (impl_ShowSlot.calls k3 _ _ t100 x124_3 t366 t367 t368 t369 t370 t371 true _ ?side1 ?side2 A49.out).mono ?_); (case side1 => repeat (first | exact (yD HO_5.out).2.2 | (with_reducible refine zT ?_ _) | (with_reducible refine zU ?_ _) | (with_reducible refine zV ?_))); (case side2 => exact (yD HO_5.out).2.1); rintro e w68 ⟨v372, rfl, ho0, hb⟩; refine ⟨_, rfl, ?_⟩; have n0_ := zA (Kd.R_below (by (with_reducible repeat first | apply zQ | apply zR | apply zS); exact HO_5.out) hb); have n1_ := zA (Kd.R_below (by (with_reducible repeat first | apply zQ | apply zR | apply zS); exact HO_7.out) hb); have n2_ := zA (Kd.R_lower ho0 (zAE (by (with_reducible repeat first | exact HB.out | apply zH | apply zF | apply zG) <;> exact HB.out))); have n3_ := zA (zAD (by (with_reducible repeat first | exact HB.out | apply zH | apply zF | apply zG) <;> exact HB.out) hb); clear HO_5; clear HO_7; clear HB; have HO_5 := n0_; have HO_7 := n1_; have HO373 := n2_; have HB := n3_; clear n0_ n1_ n2_ n3_; (try clear hb); (try clear ho0)) | ((with_reducible refine gate_dst (N := 19) rfl ?_); refine box_event ?hg (N := 19) ?hd (cs := #[.string (⟨#[]⟩ : ByteArray), .string (⟨#[]⟩ : ByteArray), .string (⟨#[]⟩ : ByteArray), .string (⟨#[]⟩ : ByteArray), .bool false]) (t := 35) ?hr ?_; (case hd => rfl); (case hg => rfl); (case hr => first | (go_simp; done) | (go_simp; rfl)); intro gb375 hg w69 hbox hb; have n0_ := zA (Kd.R_below (Kd.R_elderB (by (with_reducible repeat first | apply zQ | apply zR | apply zS); exact HO_5.out) gb375 (Nat.le_of_eq hg.symm)) hb); have n1_ := zA (Kd.R_below (Kd.R_elderB (by (with_reducible repeat first | apply zQ | apply zR | apply zS); exact HO_7.out) gb375 (Nat.le_of_eq hg.symm)) hb); have n2_ := zA (Kd.R_below (by (with_reducible repeat first | apply zQ | apply zR | apply zS); exact HO373.out) hb); have n3_ := zA (zAD (by (with_reducible repeat first | exact HB.out | apply zH | apply zF | apply zG) <;> exact HB.out) hb); have n4_ := zA (hbox); have n5_ := zA ((by rw [hg]; exact (zAE (by (with_reducible repeat first | exact HB.out | apply zH | apply zF | apply zG) <;> exact HB.out)) : w.heap.size ≤ gb375)); have n6_ := zA ((by rw [hg]; exact (zAE (by (with_reducible repeat first | exact HB.out | apply zH | apply zF | apply zG) <;> exact HB.out)) : w.heap.size ≤ gb375)); clear HO_5; clear HO_7; clear HO373; clear HB; have HO_5 := n0_; have HO_7 := n1_; have HO373 := n2_; have HB := n3_; have BK375 := n4_; have GW375 := n5_; have GE375 := n6_; clear n0_ n1_ n2_ n3_ n4_ n5_ n6_; clear hb hbox hg; have hcz70_0 : w69.cell? ⟨gb375, 0, none⟩ = some (.string (⟨#[]⟩ : ByteArray)) := (zP BK375.out 0).trans rfl; have hcz70_1 : w69.cell? ⟨gb375, 1, none⟩ = some (.string (⟨#[]⟩ : ByteArray)) := (zP BK375.out 1).trans rfl; have hcz70_2 : w69.cell? ⟨gb375, 2, none⟩ = some (.string (⟨#[]⟩ : ByteArray)) := (zP BK375.out 2).trans rfl; have hcz70_3 : w69.cell? ⟨gb375, 3, none⟩ = some (.string (⟨#[]⟩ : ByteArray)) := (zP BK375.out 3).trans rfl; have hcz70_4 : w69.cell? ⟨gb375, 4, none⟩ = some (.bool false) := (zP BK375.out 4).trans rfl; have hfz70_0 := zO BK375.out 0; have hfz70_1 := zO BK375.out 1; have hfz70_2 := zO BK375.out 2; have hfz70_3 := zO BK375.out 3; have hfz70_4 := zO BK375.out 4; obtain ⟨Ao71, co71, eo71⟩ := Kd.R_slice HO373.out; subst eo71) | ((with_reducible refine yB (f := 19) rfl ?_); refine goesL_ (some 139) rfl rfl Try.func19 (by kernel_rfl) rfl #[.string t350, .int .i64 x124_3, .agg #[.string t366, .string t367, .string t368, .string t369, .bool t370], .slice Ao71 t371.length co71] rfl (by (try simp only [zAA, zAB, zAC]); first | done | rfl | (simp only [zZ, zY]; rfl)) ?_; (with_reducible refine (impl_CheckSlot.calls k3 t350 x124_3 t366 t367 t368 t369 t370 _ _ t371 true true _ ?side1 ?side2 A50.out).mono ?_); (case side1 => refine (yD (e := 9) (base := w.heap.size) (ok := fun k_ => True) (n := t371.length) (c := co71) ?_).2.2; exact (by (with_reducible repeat first | apply zQ | apply zR | apply zS); exact (yC (Kd.R_far (p := ⟨gb375, 4, none⟩) (Kd.R_far (p := ⟨gb375, 3, none⟩) (Kd.R_far (p := ⟨gb375, 2, none⟩) (Kd.R_far (p := ⟨gb375, 1, none⟩) (Kd.R_far (p := ⟨gb375, 0, none⟩) (Kd.R_types HO373.out BK375.out (by decide)) (fun _ hk => hk.2) (.string t366)) (fun _ hk => hk.2) (.string t367)) (fun _ hk => hk.2) (.string t368)) (fun _ hk => hk.2) (.string t369)) (fun _ hk => hk.2) (.bool t370)) (fun _ h_ => h_.1)))); (case side2 => exact (yD HO373.out).2.1); rintro e w72 ⟨rfl, hb⟩; refine ⟨_, rfl, ?_⟩; have n0_ := zA (Kd.R_below (by (with_reducible repeat first | apply zQ | apply zR | apply zS); exact (yC (Kd.R_far (p := ⟨gb375, 4, none⟩) (Kd.R_far (p := ⟨gb375, 3, none⟩) (Kd.R_far (p := ⟨gb375, 2, none⟩) (Kd.R_far (p := ⟨gb375, 1, none⟩) (Kd.R_far (p := ⟨gb375, 0, none⟩) (yC HO_5.out (fun k_ hk => (⟨hk, hk.2⟩ : _ ∧ k_ ≠ gb375))) (fun _ hk => hk.2) (.string t366)) (fun _ hk => hk.2) (.string t367)) (fun _ hk => hk.2) (.string t368)) (fun _ hk => hk.2) (.string t369)) (fun _ hk => hk.2) (.bool t370)) (fun _ h_ => h_.1))) hb); have n1_ := zA (Kd.R_below (by (with_reducible repeat first | apply zQ | apply zR | apply zS); exact (yC (Kd.R_far (p := ⟨gb375, 4, none⟩) (Kd.R_far (p := ⟨gb375, 3, none⟩) (Kd.R_far (p := ⟨gb375, 2, none⟩) (Kd.R_far (p := ⟨gb375, 1, none⟩) (Kd.R_far (p := ⟨gb375, 0, none⟩) (yC HO_7.out (fun k_ hk => (⟨hk, hk.2⟩ : _ ∧ k_ ≠ gb375))) (fun _ hk => hk.2) (.string t366)) (fun _ hk => hk.2) (.string t367)) (fun _ hk => hk.2) (.string t368)) (fun _ hk => hk.2) (.string t369)) (fun _ hk => hk.2) (.bool t370)) (fun _ h_ => h_.1))) hb); have n2_ := zA (Kd.R_below (by (with_reducible repeat first | apply zQ | apply zR | apply zS); exact (yC (Kd.R_far (p := ⟨gb375, 4, none⟩) (Kd.R_far (p := ⟨gb375, 3, none⟩) (Kd.R_far (p := ⟨gb375, 2, none⟩) (Kd.R_far (p := ⟨gb375, 1, none⟩) (Kd.R_far (p := ⟨gb375, 0, none⟩) (Kd.R_types HO373.out BK375.out (by decide)) (fun _ hk => hk.2) (.string t366)) (fun _ hk => hk.2) (.string t367)) (fun _ hk => hk.2) (.string t368)) (fun _ hk => hk.2) (.string t369)) (fun _ hk => hk.2) (.bool t370)) (fun _ h_ => h_.1))) hb); have n3_ := zA (yE (g := gb375) (o := .cells #[.string t366, .string t367, .string t368, .string t369, .bool t370] 35 (0, 0)) (by (with_reducible repeat (first | refine zL ?_ _ | refine zN ?_ | refine zM ?_ _)); refine blk_put (cs := #[.string t366, .string t367, .string t368, .string t369, .bool false]) ?_ 4 _ rfl; (with_reducible repeat (first | refine zL ?_ _ | refine zN ?_ | refine zM ?_ _)); refine blk_put (cs := #[.string t366, .string t367, .string t368, .string (⟨#[]⟩ : ByteArray), .bool false]) ?_ 3 _ rfl; (with_reducible repeat (first | refine zL ?_ _ | refine zN ?_ | refine zM ?_ _)); refine blk_put (cs := #[.string t366, .string t367, .string (⟨#[]⟩ : ByteArray), .string (⟨#[]⟩ : ByteArray), .bool false]) ?_ 2 _ rfl; (with_reducible repeat (first | refine zL ?_ _ | refine zN ?_ | refine zM ?_ _)); refine blk_put (cs := #[.string t366, .string (⟨#[]⟩ : ByteArray), .string (⟨#[]⟩ : ByteArray), .string (⟨#[]⟩ : ByteArray), .bool false]) ?_ 1 _ rfl; (with_reducible repeat (first | refine zL ?_ _ | refine zN ?_ | refine zM ?_ _)); refine blk_put (cs := #[.string (⟨#[]⟩ : ByteArray), .string (⟨#[]⟩ : ByteArray), .string (⟨#[]⟩ : ByteArray), .string (⟨#[]⟩ : ByteArray), .bool false]) ?_ 0 _ rfl; (with_reducible repeat (first | refine zL ?_ _ | refine zN ?_ | refine zM ?_ _)); exact BK375.out) hb); have n4_ := zA (zAD (by repeat (first | (with_reducible first | exact HB.out | apply zH | apply zF | apply zG | refine zI ?_ GE375.out) | exact HB.out)) hb); clear HO_5; clear HO_7; clear HO373; clear BK375; clear HB; have HO_5 := n0_; have HO_7 := n1_; have HO373 := n2_; have BK375 := n3_; have HB := n4_; clear n0_ n1_ n2_ n3_ n4_; (try clear hb); (try clear hk)) | ((with_reducible refine yB (f := 17) rfl ?_); refine goesL_ (some 145) rfl rfl Try.func17 (by kernel_rfl) rfl #[.slice Ao30 t337.length co30, .int .i64 x124_3] rfl (by (try simp only [zAA, zAB, zAC]); first | done | rfl | (simp only [zZ, zY]; rfl)) ?_; (with_reducible refine (impl_BodyAt.calls k3 _ _ t337 x124_3 t378 t379 true _ ?side1 ?side2 A51.out).mono ?_); (case side1 => repeat (first | exact (yD HO_7.out).2.2 | (with_reducible refine zT ?_ _) | (with_reducible refine zU ?_ _) | (with_reducible refine zV ?_))); (case side2 => exact (yD HO_7.out).2.1); rintro e w73 ⟨rfl, hb⟩; refine ⟨_, rfl, ?_⟩; have n0_ := zA (Kd.R_below (by (with_reducible repeat first | apply zQ | apply zR | apply zS); exact HO_5.out) hb); have n1_ := zA (Kd.R_below (by (with_reducible repeat first | apply zQ | apply zR | apply zS); exact HO_7.out) hb); have n2_ := zA (Kd.R_below (by (with_reducible repeat first | apply zQ | apply zR | apply zS); exact HO373.out) hb); have n3_ := zA (yE (g := gb375) (o := .cells #[.string t366, .string t367, .string t368, .string t369, .bool t370] 35 (0, 0)) (by (with_reducible repeat (first | refine zL ?_ _ | refine zN ?_ | refine zM ?_ _)); exact BK375.out) hb); have n4_ := zA (zAD (by repeat (first | (with_reducible first | exact HB.out | apply zH | apply zF | apply zG | refine zI ?_ GE375.out) | exact HB.out)) hb); clear HO_5; clear HO_7; clear HO373; clear BK375; clear HB; have HO_5 := n0_; have HO_7 := n1_; have HO373 := n2_; have BK375 := n3_; have HB := n4_; clear n0_ n1_ n2_ n3_ n4_; (try clear hb)) | ((with_reducible refine yB (f := 17) rfl ?_); refine goesL_ (some 152) rfl rfl Try.func17 (by kernel_rfl) rfl #[.slice Ao9 t100.length co9, .int .i64 x124_3] rfl (by (try simp only [zAA, zAB, zAC]); first | done | rfl | (simp only [zZ, zY]; rfl)) ?_; (with_reducible refine (impl_BodyAt.calls k3 _ _ t100 x124_3 t381 t382 true _ ?side1 ?side2 A52.out).mono ?_); (case side1 => repeat (first | exact (yD HO_5.out).2.2 | (with_reducible refine zT ?_ _) | (with_reducible refine zU ?_ _) | (with_reducible refine zV ?_))); (case side2 => exact (yD HO_5.out).2.1); rintro e w74 ⟨rfl, hb⟩; refine ⟨_, rfl, ?_⟩; have n0_ := zA (Kd.R_below (by (with_reducible repeat first | apply zQ | apply zR | apply zS); exact HO_5.out) hb); have n1_ := zA (Kd.R_below (by (with_reducible repeat first | apply zQ | apply zR | apply zS); exact HO_7.out) hb); have n2_ := zA (Kd.R_below (by (with_reducible repeat first | apply zQ | apply zR | apply zS); exact HO373.out) hb); have n3_ := zA (yE (g := gb375) (o := .cells #[.string t366, .string t367, .string t368, .string t369, .bool t370] 35 (0, 0)) (by (with_reducible repeat (first | refine zL ?_ _ | refine zN ?_ | refine zM ?_ _)); exact BK375.out) hb); have n4_ := zA (zAD (by repeat (first | (with_reducible first | exact HB.out | apply zH | apply zF | apply zG | refine zI ?_ GE375.out) | exact HB.out)) hb); clear HO_5; clear HO_7; clear HO373; clear BK375; clear HB; have HO_5 := n0_; have HO_7 := n1_; have HO373 := n2_; have BK375 := n3_; have HB := n4_; clear n0_ n1_ n2_ n3_ n4_; (try clear hb)))
                     go_ret; exact ⟨by first | rfl | (simp <;> rfl) | (simp [*] <;> rfl), by repeat (first | (with_reducible first | exact HB.out | apply zH | apply zF | apply zG | refine zI ?_ GE375.out) | exact HB.out)⟩
                   ·rw [if_neg c67] at H
                    have c67b0 : (t379 != t382) = false := by simpa using c67
                    (try (have c67b1 : decide (t379 = t382) = true := by simpa using c67)); (try (have c67b2 : (t379 == t382) = true := by simpa using c67)); clear c67
                    as_aux_lemma =>
                     have H' := zA H; clear H; go_wp2_with (first | ((with_reducible refine yB (f := 18) rfl ?_); refine goesL_ (some 130) rfl rfl Try.func18 (by kernel_rfl) rfl #[.slice Ao9 t100.length co9, .int .i64 x124_3] rfl (by (try simp only [zAA, zAB, zAC]); first | done | rfl | (simp only [zZ, zY]; rfl)) ?_; (with_reducible refine (impl_ShowSlot.calls k3 _ _ t100 x124_3 t366 t367 t368 t369 t370 t371 true _ ?side1 ?side2 A49.out).mono ?_); (case side1 => repeat (first | exact (yD HO_5.out).2.2 | (with_reducible refine zT ?_ _) | (with_reducible refine zU ?_ _) | (with_reducible refine zV ?_))); (case side2 => exact (yD HO_5.out).2.1); rintro e w75 ⟨v372, rfl, ho0, hb⟩; refine ⟨_, rfl, ?_⟩; have n0_ := zA (Kd.R_below (by (with_reducible repeat first | apply zQ | apply zR | apply zS); exact HO_5.out) hb); have n1_ := zA (Kd.R_below (by (with_reducible repeat first | apply zQ | apply zR | apply zS); exact HO_7.out) hb); have n2_ := zA (Kd.R_lower ho0 (zAE (by (with_reducible repeat first | exact HB.out | apply zH | apply zF | apply zG) <;> exact HB.out))); have n3_ := zA (zAD (by (with_reducible repeat first | exact HB.out | apply zH | apply zF | apply zG) <;> exact HB.out) hb); clear HO_5; clear HO_7; clear HB; have HO_5 := n0_; have HO_7 := n1_; have HO373 := n2_; have HB := n3_; clear n0_ n1_ n2_ n3_; (try clear hb); (try clear ho0)) | ((with_reducible refine gate_dst (N := 19) rfl ?_); refine box_event ?hg (N := 19) ?hd (cs := #[.string (⟨#[]⟩ : ByteArray), .string (⟨#[]⟩ : ByteArray), .string (⟨#[]⟩ : ByteArray), .string (⟨#[]⟩ : ByteArray), .bool false]) (t := 35) ?hr ?_; (case hd => rfl); (case hg => rfl); (case hr => first | (go_simp; done) | (go_simp; rfl)); intro gb375 hg w76 hbox hb; have n0_ := zA (Kd.R_below (Kd.R_elderB (by (with_reducible repeat first | apply zQ | apply zR | apply zS); exact HO_5.out) gb375 (Nat.le_of_eq hg.symm)) hb); have n1_ := zA (Kd.R_below (Kd.R_elderB (by (with_reducible repeat first | apply zQ | apply zR | apply zS); exact HO_7.out) gb375 (Nat.le_of_eq hg.symm)) hb); have n2_ := zA (Kd.R_below (by (with_reducible repeat first | apply zQ | apply zR | apply zS); exact HO373.out) hb); have n3_ := zA (zAD (by (with_reducible repeat first | exact HB.out | apply zH | apply zF | apply zG) <;> exact HB.out) hb); have n4_ := zA (hbox); have n5_ := zA ((by rw [hg]; exact (zAE (by (with_reducible repeat first | exact HB.out | apply zH | apply zF | apply zG) <;> exact HB.out)) : w.heap.size ≤ gb375)); have n6_ := zA ((by rw [hg]; exact (zAE (by (with_reducible repeat first | exact HB.out | apply zH | apply zF | apply zG) <;> exact HB.out)) : w.heap.size ≤ gb375)); clear HO_5; clear HO_7; clear HO373; clear HB; have HO_5 := n0_; have HO_7 := n1_; have HO373 := n2_; have HB := n3_; have BK375 := n4_; have GW375 := n5_; have GE375 := n6_; clear n0_ n1_ n2_ n3_ n4_ n5_ n6_; clear hb hbox hg; have hcz77_0 : w76.cell? ⟨gb375, 0, none⟩ = some (.string (⟨#[]⟩ : ByteArray)) := (zP BK375.out 0).trans rfl; have hcz77_1 : w76.cell? ⟨gb375, 1, none⟩ = some (.string (⟨#[]⟩ : ByteArray)) := (zP BK375.out 1).trans rfl; have hcz77_2 : w76.cell? ⟨gb375, 2, none⟩ = some (.string (⟨#[]⟩ : ByteArray)) := (zP BK375.out 2).trans rfl; have hcz77_3 : w76.cell? ⟨gb375, 3, none⟩ = some (.string (⟨#[]⟩ : ByteArray)) := (zP BK375.out 3).trans rfl; have hcz77_4 : w76.cell? ⟨gb375, 4, none⟩ = some (.bool false) := (zP BK375.out 4).trans rfl; have hfz77_0 := zO BK375.out 0; have hfz77_1 := zO BK375.out 1; have hfz77_2 := zO BK375.out 2; have hfz77_3 := zO BK375.out 3; have hfz77_4 := zO BK375.out 4; obtain ⟨Ao78, co78, eo78⟩ := Kd.R_slice HO373.out; subst eo78) | ((with_reducible refine yB (f := 19) rfl ?_); refine goesL_ (some 139) rfl rfl Try.func19 (by kernel_rfl) rfl #[.string t350, .int .i64 x124_3, .agg #[.string t366, .string t367, .string t368, .string t369, .bool t370], .slice Ao78 t371.length co78] rfl (by (try simp only [zAA, zAB, zAC]); first | done | rfl | (simp only [zZ, zY]; rfl)) ?_; (with_reducible refine (impl_CheckSlot.calls k3 t350 x124_3 t366 t367 t368 t369 t370 _ _ t371 true true _ ?side1 ?side2 A50.out).mono ?_); (case side1 => refine (yD (e := 9) (base := w.heap.size) (ok := fun k_ => True) (n := t371.length) (c := co78) ?_).2.2; exact (by (with_reducible repeat first | apply zQ | apply zR | apply zS); exact (yC (Kd.R_far (p := ⟨gb375, 4, none⟩) (Kd.R_far (p := ⟨gb375, 3, none⟩) (Kd.R_far (p := ⟨gb375, 2, none⟩) (Kd.R_far (p := ⟨gb375, 1, none⟩) (Kd.R_far (p := ⟨gb375, 0, none⟩) (Kd.R_types HO373.out BK375.out (by decide)) (fun _ hk => hk.2) (.string t366)) (fun _ hk => hk.2) (.string t367)) (fun _ hk => hk.2) (.string t368)) (fun _ hk => hk.2) (.string t369)) (fun _ hk => hk.2) (.bool t370)) (fun _ h_ => h_.1)))); (case side2 => exact (yD HO373.out).2.1); rintro e w79 ⟨rfl, hb⟩; refine ⟨_, rfl, ?_⟩; have n0_ := zA (Kd.R_below (by (with_reducible repeat first | apply zQ | apply zR | apply zS); exact (yC (Kd.R_far (p := ⟨gb375, 4, none⟩) (Kd.R_far (p := ⟨gb375, 3, none⟩) (Kd.R_far (p := ⟨gb375, 2, none⟩) (Kd.R_far (p := ⟨gb375, 1, none⟩) (Kd.R_far (p := ⟨gb375, 0, none⟩) (yC HO_5.out (fun k_ hk => (⟨hk, hk.2⟩ : _ ∧ k_ ≠ gb375))) (fun _ hk => hk.2) (.string t366)) (fun _ hk => hk.2) (.string t367)) (fun _ hk => hk.2) (.string t368)) (fun _ hk => hk.2) (.string t369)) (fun _ hk => hk.2) (.bool t370)) (fun _ h_ => h_.1))) hb); have n1_ := zA (Kd.R_below (by (with_reducible repeat first | apply zQ | apply zR | apply zS); exact (yC (Kd.R_far (p := ⟨gb375, 4, none⟩) (Kd.R_far (p := ⟨gb375, 3, none⟩) (Kd.R_far (p := ⟨gb375, 2, none⟩) (Kd.R_far (p := ⟨gb375, 1, none⟩) (Kd.R_far (p := ⟨gb375, 0, none⟩) (yC HO_7.out (fun k_ hk => (⟨hk, hk.2⟩ : _ ∧ k_ ≠ gb375))) (fun _ hk => hk.2) (.string t366)) (fun _ hk => hk.2) (.string t367)) (fun _ hk => hk.2) (.string t368)) (fun _ hk => hk.2) (.string t369)) (fun _ hk => hk.2) (.bool t370)) (fun _ h_ => h_.1))) hb); have n2_ := zA (Kd.R_below (by (with_reducible repeat first | apply zQ | apply zR | apply zS); exact (yC (Kd.R_far (p := ⟨gb375, 4, none⟩) (Kd.R_far (p := ⟨gb375, 3, none⟩) (Kd.R_far (p := ⟨gb375, 2, none⟩) (Kd.R_far (p := ⟨gb375, 1, none⟩) (Kd.R_far (p := ⟨gb375, 0, none⟩) (Kd.R_types HO373.out BK375.out (by decide)) (fun _ hk => hk.2) (.string t366)) (fun _ hk => hk.2) (.string t367)) (fun _ hk => hk.2) (.string t368)) (fun _ hk => hk.2) (.string t369)) (fun _ hk => hk.2) (.bool t370)) (fun _ h_ => h_.1))) hb); have n3_ := zA (yE (g := gb375) (o := .cells #[.string t366, .string t367, .string t368, .string t369, .bool t370] 35 (0, 0)) (by (with_reducible repeat (first | refine zL ?_ _ | refine zN ?_ | refine zM ?_ _)); refine blk_put (cs := #[.string t366, .string t367, .string t368, .string t369, .bool false]) ?_ 4 _ rfl; (with_reducible repeat (first | refine zL ?_ _ | refine zN ?_ | refine zM ?_ _)); refine blk_put (cs := #[.string t366, .string t367, .string t368, .string (⟨#[]⟩ : ByteArray), .bool false]) ?_ 3 _ rfl; (with_reducible repeat (first | refine zL ?_ _ | refine zN ?_ | refine zM ?_ _)); refine blk_put (cs := #[.string t366, .string t367, .string (⟨#[]⟩ : ByteArray), .string (⟨#[]⟩ : ByteArray), .bool false]) ?_ 2 _ rfl; (with_reducible repeat (first | refine zL ?_ _ | refine zN ?_ | refine zM ?_ _)); refine blk_put (cs := #[.string t366, .string (⟨#[]⟩ : ByteArray), .string (⟨#[]⟩ : ByteArray), .string (⟨#[]⟩ : ByteArray), .bool false]) ?_ 1 _ rfl; (with_reducible repeat (first | refine zL ?_ _ | refine zN ?_ | refine zM ?_ _)); refine blk_put (cs := #[.string (⟨#[]⟩ : ByteArray), .string (⟨#[]⟩ : ByteArray), .string (⟨#[]⟩ : ByteArray), .string (⟨#[]⟩ : ByteArray), .bool false]) ?_ 0 _ rfl; (with_reducible repeat (first | refine zL ?_ _ | refine zN ?_ | refine zM ?_ _)); exact BK375.out) hb); have n4_ := zA (zAD (by repeat (first | (with_reducible first | exact HB.out | apply zH | apply zF | apply zG | refine zI ?_ GE375.out) | exact HB.out)) hb); clear HO_5; clear HO_7; clear HO373; clear BK375; clear HB; have HO_5 := n0_; have HO_7 := n1_; have HO373 := n2_; have BK375 := n3_; have HB := n4_; clear n0_ n1_ n2_ n3_ n4_; (try clear hb); (try clear hk)) | ((with_reducible refine yB (f := 17) rfl ?_); refine goesL_ (some 145) rfl rfl Try.func17 (by kernel_rfl) rfl #[.slice Ao30 t337.length co30, .int .i64 x124_3] rfl (by (try simp only [zAA, zAB, zAC]); first | done | rfl | (simp only [zZ, zY]; rfl)) ?_; (with_reducible refine (impl_BodyAt.calls k3 _ _ t337 x124_3 t378 t379 true _ ?side1 ?side2 A51.out).mono ?_); (case side1 => repeat (first | exact (yD HO_7.out).2.2 | (with_reducible refine zT ?_ _) | (with_reducible refine zU ?_ _) | (with_reducible refine zV ?_))); (case side2 => exact (yD HO_7.out).2.1); rintro e w80 ⟨rfl, hb⟩; refine ⟨_, rfl, ?_⟩; have n0_ := zA (Kd.R_below (by (with_reducible repeat first | apply zQ | apply zR | apply zS); exact HO_5.out) hb); have n1_ := zA (Kd.R_below (by (with_reducible repeat first | apply zQ | apply zR | apply zS); exact HO_7.out) hb); have n2_ := zA (Kd.R_below (by (with_reducible repeat first | apply zQ | apply zR | apply zS); exact HO373.out) hb); have n3_ := zA (yE (g := gb375) (o := .cells #[.string t366, .string t367, .string t368, .string t369, .bool t370] 35 (0, 0)) (by (with_reducible repeat (first | refine zL ?_ _ | refine zN ?_ | refine zM ?_ _)); exact BK375.out) hb); have n4_ := zA (zAD (by repeat (first | (with_reducible first | exact HB.out | apply zH | apply zF | apply zG | refine zI ?_ GE375.out) | exact HB.out)) hb); clear HO_5; clear HO_7; clear HO373; clear BK375; clear HB; have HO_5 := n0_; have HO_7 := n1_; have HO373 := n2_; have BK375 := n3_; have HB := n4_; clear n0_ n1_ n2_ n3_ n4_; (try clear hb)) | ((with_reducible refine yB (f := 17) rfl ?_); refine goesL_ (some 152) rfl rfl Try.func17 (by kernel_rfl) rfl #[.slice Ao9 t100.length co9, .int .i64 x124_3] rfl (by (try simp only [zAA, zAB, zAC]); first | done | rfl | (simp only [zZ, zY]; rfl)) ?_; (with_reducible refine (impl_BodyAt.calls k3 _ _ t100 x124_3 t381 t382 true _ ?side1 ?side2 A52.out).mono ?_); (case side1 => repeat (first | exact (yD HO_5.out).2.2 | (with_reducible refine zT ?_ _) | (with_reducible refine zU ?_ _) | (with_reducible refine zV ?_))); (case side2 => exact (yD HO_5.out).2.1); rintro e w81 ⟨rfl, hb⟩; refine ⟨_, rfl, ?_⟩; have n0_ := zA (Kd.R_below (by (with_reducible repeat first | apply zQ | apply zR | apply zS); exact HO_5.out) hb); have n1_ := zA (Kd.R_below (by (with_reducible repeat first | apply zQ | apply zR | apply zS); exact HO_7.out) hb); have n2_ := zA (Kd.R_below (by (with_reducible repeat first | apply zQ | apply zR | apply zS); exact HO373.out) hb); have n3_ := zA (yE (g := gb375) (o := .cells #[.string t366, .string t367, .string t368, .string t369, .bool t370] 35 (0, 0)) (by (with_reducible repeat (first | refine zL ?_ _ | refine zN ?_ | refine zM ?_ _)); exact BK375.out) hb); have n4_ := zA (zAD (by repeat (first | (with_reducible first | exact HB.out | apply zH | apply zF | apply zG | refine zI ?_ GE375.out) | exact HB.out)) hb); clear HO_5; clear HO_7; clear HO373; clear BK375; clear HB; have HO_5 := n0_; have HO_7 := n1_; have HO373 := n2_; have BK375 := n3_; have HB := n4_; clear n0_ n1_ n2_ n3_ n4_; (try clear hb)))
                     go_roundg k3
                     case measure => have := HJ6.out; have := HJ27.out; have := HK3.out; omega
                     case rel => exact ⟨(wrap64 (x124_3 + 1)), (by first | rfl | (simp; done) | (simp [*]; done) | (simp [bne]; done)), H', ⟨by have := HJ6.out; have := HJ27.out; have := HK3.out; omega⟩, ⟨by (with_reducible repeat first | apply zQ | apply zR | apply zS); exact yC HO_5.out (fun _ hk => hk.1)⟩, ⟨by (with_reducible repeat first | apply zQ | apply zR | apply zS); exact yC HO_7.out (fun _ hk => hk.1)⟩, ⟨by repeat (first | (with_reducible first | exact HB.out | apply zH | apply zF | apply zG | refine zI ?_ GE375.out) | exact HB.out)⟩⟩
                  ·rw [if_neg c66] at H
                   have c66b0 : (t378.toList == t381.toList) = false := beq_eq_false_iff_ne.mpr c66; have c66b1 : (t378.toList != t381.toList) = true := bne_iff_ne.mpr c66
                   as_aux_lemma =>
                    obtain rfl := Option.some.inj H; go_wp2_with (first | ((with_reducible refine yB (f := 18) rfl ?_); refine goesL_ (some 130) rfl rfl Try.func18 (by kernel_rfl) rfl #[.slice Ao9 t100.length co9, .int .i64 x124_3] rfl (by (try simp only [zAA, zAB, zAC]); first | done | rfl | (simp only [zZ, zY]; rfl)) ?_; (with_reducible refine (impl_ShowSlot.calls k3 _ _ t100 x124_3 t366 t367 t368 t369 t370 t371 true _ ?side1 ?side2 A49.out).mono ?_); (case side1 => repeat (first | exact (yD HO_5.out).2.2 | (with_reducible refine zT ?_ _) | (with_reducible refine zU ?_ _) | (with_reducible refine zV ?_))); (case side2 => exact (yD HO_5.out).2.1); rintro e w82 ⟨v372, rfl, ho0, hb⟩; refine ⟨_, rfl, ?_⟩; have n0_ := zA (Kd.R_below (by (with_reducible repeat first | apply zQ | apply zR | apply zS); exact HO_5.out) hb); have n1_ := zA (Kd.R_below (by (with_reducible repeat first | apply zQ | apply zR | apply zS); exact HO_7.out) hb); have n2_ := zA (Kd.R_lower ho0 (zAE (by (with_reducible repeat first | exact HB.out | apply zH | apply zF | apply zG) <;> exact HB.out))); have n3_ := zA (zAD (by (with_reducible repeat first | exact HB.out | apply zH | apply zF | apply zG) <;> exact HB.out) hb); clear HO_5; clear HO_7; clear HB; have HO_5 := n0_; have HO_7 := n1_; have HO373 := n2_; have HB := n3_; clear n0_ n1_ n2_ n3_; (try clear hb); (try clear ho0)) | ((with_reducible refine gate_dst (N := 19) rfl ?_); refine box_event ?hg (N := 19) ?hd (cs := #[.string (⟨#[]⟩ : ByteArray), .string (⟨#[]⟩ : ByteArray), .string (⟨#[]⟩ : ByteArray), .string (⟨#[]⟩ : ByteArray), .bool false]) (t := 35) ?hr ?_; (case hd => rfl); (case hg => rfl); (case hr => first | (go_simp; done) | (go_simp; rfl)); intro gb375 hg w83 hbox hb; have n0_ := zA (Kd.R_below (Kd.R_elderB (by (with_reducible repeat first | apply zQ | apply zR | apply zS); exact HO_5.out) gb375 (Nat.le_of_eq hg.symm)) hb); have n1_ := zA (Kd.R_below (Kd.R_elderB (by (with_reducible repeat first | apply zQ | apply zR | apply zS); exact HO_7.out) gb375 (Nat.le_of_eq hg.symm)) hb); have n2_ := zA (Kd.R_below (by (with_reducible repeat first | apply zQ | apply zR | apply zS); exact HO373.out) hb); have n3_ := zA (zAD (by (with_reducible repeat first | exact HB.out | apply zH | apply zF | apply zG) <;> exact HB.out) hb); have n4_ := zA (hbox); have n5_ := zA ((by rw [hg]; exact (zAE (by (with_reducible repeat first | exact HB.out | apply zH | apply zF | apply zG) <;> exact HB.out)) : w.heap.size ≤ gb375)); have n6_ := zA ((by rw [hg]; exact (zAE (by (with_reducible repeat first | exact HB.out | apply zH | apply zF | apply zG) <;> exact HB.out)) : w.heap.size ≤ gb375)); clear HO_5; clear HO_7; clear HO373; clear HB; have HO_5 := n0_; have HO_7 := n1_; have HO373 := n2_; have HB := n3_; have BK375 := n4_; have GW375 := n5_; have GE375 := n6_; clear n0_ n1_ n2_ n3_ n4_ n5_ n6_; clear hb hbox hg; have hcz84_0 : w83.cell? ⟨gb375, 0, none⟩ = some (.string (⟨#[]⟩ : ByteArray)) := (zP BK375.out 0).trans rfl; have hcz84_1 : w83.cell? ⟨gb375, 1, none⟩ = some (.string (⟨#[]⟩ : ByteArray)) := (zP BK375.out 1).trans rfl; have hcz84_2 : w83.cell? ⟨gb375, 2, none⟩ = some (.string (⟨#[]⟩ : ByteArray)) := (zP BK375.out 2).trans rfl; have hcz84_3 : w83.cell? ⟨gb375, 3, none⟩ = some (.string (⟨#[]⟩ : ByteArray)) := (zP BK375.out 3).trans rfl; have hcz84_4 : w83.cell? ⟨gb375, 4, none⟩ = some (.bool false) := (zP BK375.out 4).trans rfl; have hfz84_0 := zO BK375.out 0; have hfz84_1 := zO BK375.out 1; have hfz84_2 := zO BK375.out 2; have hfz84_3 := zO BK375.out 3; have hfz84_4 := zO BK375.out 4; obtain ⟨Ao85, co85, eo85⟩ := Kd.R_slice HO373.out; subst eo85) | ((with_reducible refine yB (f := 19) rfl ?_); refine goesL_ (some 139) rfl rfl Try.func19 (by kernel_rfl) rfl #[.string t350, .int .i64 x124_3, .agg #[.string t366, .string t367, .string t368, .string t369, .bool t370], .slice Ao85 t371.length co85] rfl (by (try simp only [zAA, zAB, zAC]); first | done | rfl | (simp only [zZ, zY]; rfl)) ?_; (with_reducible refine (impl_CheckSlot.calls k3 t350 x124_3 t366 t367 t368 t369 t370 _ _ t371 true true _ ?side1 ?side2 A50.out).mono ?_); (case side1 => refine (yD (e := 9) (base := w.heap.size) (ok := fun k_ => True) (n := t371.length) (c := co85) ?_).2.2; exact (by (with_reducible repeat first | apply zQ | apply zR | apply zS); exact (yC (Kd.R_far (p := ⟨gb375, 4, none⟩) (Kd.R_far (p := ⟨gb375, 3, none⟩) (Kd.R_far (p := ⟨gb375, 2, none⟩) (Kd.R_far (p := ⟨gb375, 1, none⟩) (Kd.R_far (p := ⟨gb375, 0, none⟩) (Kd.R_types HO373.out BK375.out (by decide)) (fun _ hk => hk.2) (.string t366)) (fun _ hk => hk.2) (.string t367)) (fun _ hk => hk.2) (.string t368)) (fun _ hk => hk.2) (.string t369)) (fun _ hk => hk.2) (.bool t370)) (fun _ h_ => h_.1)))); (case side2 => exact (yD HO373.out).2.1); rintro e w86 ⟨rfl, hb⟩; refine ⟨_, rfl, ?_⟩; have n0_ := zA (Kd.R_below (by (with_reducible repeat first | apply zQ | apply zR | apply zS); exact (yC (Kd.R_far (p := ⟨gb375, 4, none⟩) (Kd.R_far (p := ⟨gb375, 3, none⟩) (Kd.R_far (p := ⟨gb375, 2, none⟩) (Kd.R_far (p := ⟨gb375, 1, none⟩) (Kd.R_far (p := ⟨gb375, 0, none⟩) (yC HO_5.out (fun k_ hk => (⟨hk, hk.2⟩ : _ ∧ k_ ≠ gb375))) (fun _ hk => hk.2) (.string t366)) (fun _ hk => hk.2) (.string t367)) (fun _ hk => hk.2) (.string t368)) (fun _ hk => hk.2) (.string t369)) (fun _ hk => hk.2) (.bool t370)) (fun _ h_ => h_.1))) hb); have n1_ := zA (Kd.R_below (by (with_reducible repeat first | apply zQ | apply zR | apply zS); exact (yC (Kd.R_far (p := ⟨gb375, 4, none⟩) (Kd.R_far (p := ⟨gb375, 3, none⟩) (Kd.R_far (p := ⟨gb375, 2, none⟩) (Kd.R_far (p := ⟨gb375, 1, none⟩) (Kd.R_far (p := ⟨gb375, 0, none⟩) (yC HO_7.out (fun k_ hk => (⟨hk, hk.2⟩ : _ ∧ k_ ≠ gb375))) (fun _ hk => hk.2) (.string t366)) (fun _ hk => hk.2) (.string t367)) (fun _ hk => hk.2) (.string t368)) (fun _ hk => hk.2) (.string t369)) (fun _ hk => hk.2) (.bool t370)) (fun _ h_ => h_.1))) hb); have n2_ := zA (Kd.R_below (by (with_reducible repeat first | apply zQ | apply zR | apply zS); exact (yC (Kd.R_far (p := ⟨gb375, 4, none⟩) (Kd.R_far (p := ⟨gb375, 3, none⟩) (Kd.R_far (p := ⟨gb375, 2, none⟩) (Kd.R_far (p := ⟨gb375, 1, none⟩) (Kd.R_far (p := ⟨gb375, 0, none⟩) (Kd.R_types HO373.out BK375.out (by decide)) (fun _ hk => hk.2) (.string t366)) (fun _ hk => hk.2) (.string t367)) (fun _ hk => hk.2) (.string t368)) (fun _ hk => hk.2) (.string t369)) (fun _ hk => hk.2) (.bool t370)) (fun _ h_ => h_.1))) hb); have n3_ := zA (yE (g := gb375) (o := .cells #[.string t366, .string t367, .string t368, .string t369, .bool t370] 35 (0, 0)) (by (with_reducible repeat (first | refine zL ?_ _ | refine zN ?_ | refine zM ?_ _)); refine blk_put (cs := #[.string t366, .string t367, .string t368, .string t369, .bool false]) ?_ 4 _ rfl; (with_reducible repeat (first | refine zL ?_ _ | refine zN ?_ | refine zM ?_ _)); refine blk_put (cs := #[.string t366, .string t367, .string t368, .string (⟨#[]⟩ : ByteArray), .bool false]) ?_ 3 _ rfl; (with_reducible repeat (first | refine zL ?_ _ | refine zN ?_ | refine zM ?_ _)); refine blk_put (cs := #[.string t366, .string t367, .string (⟨#[]⟩ : ByteArray), .string (⟨#[]⟩ : ByteArray), .bool false]) ?_ 2 _ rfl; (with_reducible repeat (first | refine zL ?_ _ | refine zN ?_ | refine zM ?_ _)); refine blk_put (cs := #[.string t366, .string (⟨#[]⟩ : ByteArray), .string (⟨#[]⟩ : ByteArray), .string (⟨#[]⟩ : ByteArray), .bool false]) ?_ 1 _ rfl; (with_reducible repeat (first | refine zL ?_ _ | refine zN ?_ | refine zM ?_ _)); refine blk_put (cs := #[.string (⟨#[]⟩ : ByteArray), .string (⟨#[]⟩ : ByteArray), .string (⟨#[]⟩ : ByteArray), .string (⟨#[]⟩ : ByteArray), .bool false]) ?_ 0 _ rfl; (with_reducible repeat (first | refine zL ?_ _ | refine zN ?_ | refine zM ?_ _)); exact BK375.out) hb); have n4_ := zA (zAD (by repeat (first | (with_reducible first | exact HB.out | apply zH | apply zF | apply zG | refine zI ?_ GE375.out) | exact HB.out)) hb); clear HO_5; clear HO_7; clear HO373; clear BK375; clear HB; have HO_5 := n0_; have HO_7 := n1_; have HO373 := n2_; have BK375 := n3_; have HB := n4_; clear n0_ n1_ n2_ n3_ n4_; (try clear hb); (try clear hk)) | ((with_reducible refine yB (f := 17) rfl ?_); refine goesL_ (some 145) rfl rfl Try.func17 (by kernel_rfl) rfl #[.slice Ao30 t337.length co30, .int .i64 x124_3] rfl (by (try simp only [zAA, zAB, zAC]); first | done | rfl | (simp only [zZ, zY]; rfl)) ?_; (with_reducible refine (impl_BodyAt.calls k3 _ _ t337 x124_3 t378 t379 true _ ?side1 ?side2 A51.out).mono ?_); (case side1 => repeat (first | exact (yD HO_7.out).2.2 | (with_reducible refine zT ?_ _) | (with_reducible refine zU ?_ _) | (with_reducible refine zV ?_))); (case side2 => exact (yD HO_7.out).2.1); rintro e w87 ⟨rfl, hb⟩; refine ⟨_, rfl, ?_⟩; have n0_ := zA (Kd.R_below (by (with_reducible repeat first | apply zQ | apply zR | apply zS); exact HO_5.out) hb); have n1_ := zA (Kd.R_below (by (with_reducible repeat first | apply zQ | apply zR | apply zS); exact HO_7.out) hb); have n2_ := zA (Kd.R_below (by (with_reducible repeat first | apply zQ | apply zR | apply zS); exact HO373.out) hb); have n3_ := zA (yE (g := gb375) (o := .cells #[.string t366, .string t367, .string t368, .string t369, .bool t370] 35 (0, 0)) (by (with_reducible repeat (first | refine zL ?_ _ | refine zN ?_ | refine zM ?_ _)); exact BK375.out) hb); have n4_ := zA (zAD (by repeat (first | (with_reducible first | exact HB.out | apply zH | apply zF | apply zG | refine zI ?_ GE375.out) | exact HB.out)) hb); clear HO_5; clear HO_7; clear HO373; clear BK375; clear HB; have HO_5 := n0_; have HO_7 := n1_; have HO373 := n2_; have BK375 := n3_; have HB := n4_; clear n0_ n1_ n2_ n3_ n4_; (try clear hb)) | ((with_reducible refine yB (f := 17) rfl ?_); refine goesL_ (some 152) rfl rfl Try.func17 (by kernel_rfl) rfl #[.slice Ao9 t100.length co9, .int .i64 x124_3] rfl (by (try simp only [zAA, zAB, zAC]); first | done | rfl | (simp only [zZ, zY]; rfl)) ?_; (with_reducible refine (impl_BodyAt.calls k3 _ _ t100 x124_3 t381 t382 true _ ?side1 ?side2 A52.out).mono ?_); (case side1 => repeat (first | exact (yD HO_5.out).2.2 | (with_reducible refine zT ?_ _) | (with_reducible refine zU ?_ _) | (with_reducible refine zV ?_))); (case side2 => exact (yD HO_5.out).2.1); rintro e w88 ⟨rfl, hb⟩; refine ⟨_, rfl, ?_⟩; have n0_ := zA (Kd.R_below (by (with_reducible repeat first | apply zQ | apply zR | apply zS); exact HO_5.out) hb); have n1_ := zA (Kd.R_below (by (with_reducible repeat first | apply zQ | apply zR | apply zS); exact HO_7.out) hb); have n2_ := zA (Kd.R_below (by (with_reducible repeat first | apply zQ | apply zR | apply zS); exact HO373.out) hb); have n3_ := zA (yE (g := gb375) (o := .cells #[.string t366, .string t367, .string t368, .string t369, .bool t370] 35 (0, 0)) (by (with_reducible repeat (first | refine zL ?_ _ | refine zN ?_ | refine zM ?_ _)); exact BK375.out) hb); have n4_ := zA (zAD (by repeat (first | (with_reducible first | exact HB.out | apply zH | apply zF | apply zG | refine zI ?_ GE375.out) | exact HB.out)) hb); clear HO_5; clear HO_7; clear HO373; clear BK375; clear HB; have HO_5 := n0_; have HO_7 := n1_; have HO373 := n2_; have BK375 := n3_; have HB := n4_; clear n0_ n1_ n2_ n3_ n4_; (try clear hb)))
                    go_ret; exact ⟨by first | rfl | (simp <;> rfl) | (simp [*] <;> rfl), by repeat (first | (with_reducible first | exact HB.out | apply zH | apply zF | apply zG | refine zI ?_ GE375.out) | exact HB.out)⟩
                ·replace c57 := Bool.eq_false_iff.mpr c57
                 subst c57; have H1 : (some false) = some r := by rw [if_neg (show ¬ (false = true) by decide)] at H; exact H
                 clear H; have H := H1; clear H1
                 as_aux_lemma =>
                  obtain rfl := Option.some.inj H; go_wp2_with (first | ((with_reducible refine yB (f := 18) rfl ?_); refine goesL_ (some 130) rfl rfl Try.func18 (by kernel_rfl) rfl #[.slice Ao9 t100.length co9, .int .i64 x124_3] rfl (by (try simp only [zAA, zAB, zAC]); first | done | rfl | (simp only [zZ, zY]; rfl)) ?_; (with_reducible refine (impl_ShowSlot.calls k3 _ _ t100 x124_3 t366 t367 t368 t369 t370 t371 true _ ?side1 ?side2 A49.out).mono ?_); (case side1 => repeat (first | exact (yD HO_5.out).2.2 | (with_reducible refine zT ?_ _) | (with_reducible refine zU ?_ _) | (with_reducible refine zV ?_))); (case side2 => exact (yD HO_5.out).2.1); rintro e w89 ⟨v372, rfl, ho0, hb⟩; refine ⟨_, rfl, ?_⟩; have n0_ := zA (Kd.R_below (by (with_reducible repeat first | apply zQ | apply zR | apply zS); exact HO_5.out) hb); have n1_ := zA (Kd.R_below (by (with_reducible repeat first | apply zQ | apply zR | apply zS); exact HO_7.out) hb); have n2_ := zA (Kd.R_lower ho0 (zAE (by (with_reducible repeat first | exact HB.out | apply zH | apply zF | apply zG) <;> exact HB.out))); have n3_ := zA (zAD (by (with_reducible repeat first | exact HB.out | apply zH | apply zF | apply zG) <;> exact HB.out) hb); clear HO_5; clear HO_7; clear HB; have HO_5 := n0_; have HO_7 := n1_; have HO373 := n2_; have HB := n3_; clear n0_ n1_ n2_ n3_; (try clear hb); (try clear ho0)) | ((with_reducible refine gate_dst (N := 19) rfl ?_); refine box_event ?hg (N := 19) ?hd (cs := #[.string (⟨#[]⟩ : ByteArray), .string (⟨#[]⟩ : ByteArray), .string (⟨#[]⟩ : ByteArray), .string (⟨#[]⟩ : ByteArray), .bool false]) (t := 35) ?hr ?_; (case hd => rfl); (case hg => rfl); (case hr => first | (go_simp; done) | (go_simp; rfl)); intro gb375 hg w90 hbox hb; have n0_ := zA (Kd.R_below (Kd.R_elderB (by (with_reducible repeat first | apply zQ | apply zR | apply zS); exact HO_5.out) gb375 (Nat.le_of_eq hg.symm)) hb); have n1_ := zA (Kd.R_below (Kd.R_elderB (by (with_reducible repeat first | apply zQ | apply zR | apply zS); exact HO_7.out) gb375 (Nat.le_of_eq hg.symm)) hb); have n2_ := zA (Kd.R_below (by (with_reducible repeat first | apply zQ | apply zR | apply zS); exact HO373.out) hb); have n3_ := zA (zAD (by (with_reducible repeat first | exact HB.out | apply zH | apply zF | apply zG) <;> exact HB.out) hb); have n4_ := zA (hbox); have n5_ := zA ((by rw [hg]; exact (zAE (by (with_reducible repeat first | exact HB.out | apply zH | apply zF | apply zG) <;> exact HB.out)) : w.heap.size ≤ gb375)); have n6_ := zA ((by rw [hg]; exact (zAE (by (with_reducible repeat first | exact HB.out | apply zH | apply zF | apply zG) <;> exact HB.out)) : w.heap.size ≤ gb375)); clear HO_5; clear HO_7; clear HO373; clear HB; have HO_5 := n0_; have HO_7 := n1_; have HO373 := n2_; have HB := n3_; have BK375 := n4_; have GW375 := n5_; have GE375 := n6_; clear n0_ n1_ n2_ n3_ n4_ n5_ n6_; clear hb hbox hg; have hcz91_0 : w90.cell? ⟨gb375, 0, none⟩ = some (.string (⟨#[]⟩ : ByteArray)) := (zP BK375.out 0).trans rfl; have hcz91_1 : w90.cell? ⟨gb375, 1, none⟩ = some (.string (⟨#[]⟩ : ByteArray)) := (zP BK375.out 1).trans rfl; have hcz91_2 : w90.cell? ⟨gb375, 2, none⟩ = some (.string (⟨#[]⟩ : ByteArray)) := (zP BK375.out 2).trans rfl; have hcz91_3 : w90.cell? ⟨gb375, 3, none⟩ = some (.string (⟨#[]⟩ : ByteArray)) := (zP BK375.out 3).trans rfl; have hcz91_4 : w90.cell? ⟨gb375, 4, none⟩ = some (.bool false) := (zP BK375.out 4).trans rfl; have hfz91_0 := zO BK375.out 0; have hfz91_1 := zO BK375.out 1; have hfz91_2 := zO BK375.out 2; have hfz91_3 := zO BK375.out 3; have hfz91_4 := zO BK375.out 4; obtain ⟨Ao92, co92, eo92⟩ := Kd.R_slice HO373.out; subst eo92) | ((with_reducible refine yB (f := 19) rfl ?_); refine goesL_ (some 139) rfl rfl Try.func19 (by kernel_rfl) rfl #[.string t350, .int .i64 x124_3, .agg #[.string t366, .string t367, .string t368, .string t369, .bool t370], .slice Ao92 t371.length co92] rfl (by (try simp only [zAA, zAB, zAC]); first | done | rfl | (simp only [zZ, zY]; rfl)) ?_; (with_reducible refine (impl_CheckSlot.calls k3 t350 x124_3 t366 t367 t368 t369 t370 _ _ t371 true true _ ?side1 ?side2 A50.out).mono ?_); (case side1 => refine (yD (e := 9) (base := w.heap.size) (ok := fun k_ => True) (n := t371.length) (c := co92) ?_).2.2; exact (by (with_reducible repeat first | apply zQ | apply zR | apply zS); exact (yC (Kd.R_far (p := ⟨gb375, 4, none⟩) (Kd.R_far (p := ⟨gb375, 3, none⟩) (Kd.R_far (p := ⟨gb375, 2, none⟩) (Kd.R_far (p := ⟨gb375, 1, none⟩) (Kd.R_far (p := ⟨gb375, 0, none⟩) (Kd.R_types HO373.out BK375.out (by decide)) (fun _ hk => hk.2) (.string t366)) (fun _ hk => hk.2) (.string t367)) (fun _ hk => hk.2) (.string t368)) (fun _ hk => hk.2) (.string t369)) (fun _ hk => hk.2) (.bool t370)) (fun _ h_ => h_.1)))); (case side2 => exact (yD HO373.out).2.1); rintro e w93 ⟨rfl, hb⟩; refine ⟨_, rfl, ?_⟩; have n0_ := zA (Kd.R_below (by (with_reducible repeat first | apply zQ | apply zR | apply zS); exact (yC (Kd.R_far (p := ⟨gb375, 4, none⟩) (Kd.R_far (p := ⟨gb375, 3, none⟩) (Kd.R_far (p := ⟨gb375, 2, none⟩) (Kd.R_far (p := ⟨gb375, 1, none⟩) (Kd.R_far (p := ⟨gb375, 0, none⟩) (yC HO_5.out (fun k_ hk => (⟨hk, hk.2⟩ : _ ∧ k_ ≠ gb375))) (fun _ hk => hk.2) (.string t366)) (fun _ hk => hk.2) (.string t367)) (fun _ hk => hk.2) (.string t368)) (fun _ hk => hk.2) (.string t369)) (fun _ hk => hk.2) (.bool t370)) (fun _ h_ => h_.1))) hb); have n1_ := zA (Kd.R_below (by (with_reducible repeat first | apply zQ | apply zR | apply zS); exact (yC (Kd.R_far (p := ⟨gb375, 4, none⟩) (Kd.R_far (p := ⟨gb375, 3, none⟩) (Kd.R_far (p := ⟨gb375, 2, none⟩) (Kd.R_far (p := ⟨gb375, 1, none⟩) (Kd.R_far (p := ⟨gb375, 0, none⟩) (yC HO_7.out (fun k_ hk => (⟨hk, hk.2⟩ : _ ∧ k_ ≠ gb375))) (fun _ hk => hk.2) (.string t366)) (fun _ hk => hk.2) (.string t367)) (fun _ hk => hk.2) (.string t368)) (fun _ hk => hk.2) (.string t369)) (fun _ hk => hk.2) (.bool t370)) (fun _ h_ => h_.1))) hb); have n2_ := zA (Kd.R_below (by (with_reducible repeat first | apply zQ | apply zR | apply zS); exact (yC (Kd.R_far (p := ⟨gb375, 4, none⟩) (Kd.R_far (p := ⟨gb375, 3, none⟩) (Kd.R_far (p := ⟨gb375, 2, none⟩) (Kd.R_far (p := ⟨gb375, 1, none⟩) (Kd.R_far (p := ⟨gb375, 0, none⟩) (Kd.R_types HO373.out BK375.out (by decide)) (fun _ hk => hk.2) (.string t366)) (fun _ hk => hk.2) (.string t367)) (fun _ hk => hk.2) (.string t368)) (fun _ hk => hk.2) (.string t369)) (fun _ hk => hk.2) (.bool t370)) (fun _ h_ => h_.1))) hb); have n3_ := zA (yE (g := gb375) (o := .cells #[.string t366, .string t367, .string t368, .string t369, .bool t370] 35 (0, 0)) (by (with_reducible repeat (first | refine zL ?_ _ | refine zN ?_ | refine zM ?_ _)); refine blk_put (cs := #[.string t366, .string t367, .string t368, .string t369, .bool false]) ?_ 4 _ rfl; (with_reducible repeat (first | refine zL ?_ _ | refine zN ?_ | refine zM ?_ _)); refine blk_put (cs := #[.string t366, .string t367, .string t368, .string (⟨#[]⟩ : ByteArray), .bool false]) ?_ 3 _ rfl; (with_reducible repeat (first | refine zL ?_ _ | refine zN ?_ | refine zM ?_ _)); refine blk_put (cs := #[.string t366, .string t367, .string (⟨#[]⟩ : ByteArray), .string (⟨#[]⟩ : ByteArray), .bool false]) ?_ 2 _ rfl; (with_reducible repeat (first | refine zL ?_ _ | refine zN ?_ | refine zM ?_ _)); refine blk_put (cs := #[.string t366, .string (⟨#[]⟩ : ByteArray), .string (⟨#[]⟩ : ByteArray), .string (⟨#[]⟩ : ByteArray), .bool false]) ?_ 1 _ rfl; (with_reducible repeat (first | refine zL ?_ _ | refine zN ?_ | refine zM ?_ _)); refine blk_put (cs := #[.string (⟨#[]⟩ : ByteArray), .string (⟨#[]⟩ : ByteArray), .string (⟨#[]⟩ : ByteArray), .string (⟨#[]⟩ : ByteArray), .bool false]) ?_ 0 _ rfl; (with_reducible repeat (first | refine zL ?_ _ | refine zN ?_ | refine zM ?_ _)); exact BK375.out) hb); have n4_ := zA (zAD (by repeat (first | (with_reducible first | exact HB.out | apply zH | apply zF | apply zG | refine zI ?_ GE375.out) | exact HB.out)) hb); clear HO_5; clear HO_7; clear HO373; clear BK375; clear HB; have HO_5 := n0_; have HO_7 := n1_; have HO373 := n2_; have BK375 := n3_; have HB := n4_; clear n0_ n1_ n2_ n3_ n4_; (try clear hb); (try clear hk)) | ((with_reducible refine yB (f := 17) rfl ?_); refine goesL_ (some 145) rfl rfl Try.func17 (by kernel_rfl) rfl #[.slice Ao30 t337.length co30, .int .i64 x124_3] rfl (by (try simp only [zAA, zAB, zAC]); first | done | rfl | (simp only [zZ, zY]; rfl)) ?_; (with_reducible refine (impl_BodyAt.calls k3 _ _ t337 x124_3 t378 t379 true _ ?side1 ?side2 A51.out).mono ?_); (case side1 => repeat (first | exact (yD HO_7.out).2.2 | (with_reducible refine zT ?_ _) | (with_reducible refine zU ?_ _) | (with_reducible refine zV ?_))); (case side2 => exact (yD HO_7.out).2.1); rintro e w94 ⟨rfl, hb⟩; refine ⟨_, rfl, ?_⟩; have n0_ := zA (Kd.R_below (by (with_reducible repeat first | apply zQ | apply zR | apply zS); exact HO_5.out) hb); have n1_ := zA (Kd.R_below (by (with_reducible repeat first | apply zQ | apply zR | apply zS); exact HO_7.out) hb); have n2_ := zA (Kd.R_below (by (with_reducible repeat first | apply zQ | apply zR | apply zS); exact HO373.out) hb); have n3_ := zA (yE (g := gb375) (o := .cells #[.string t366, .string t367, .string t368, .string t369, .bool t370] 35 (0, 0)) (by (with_reducible repeat (first | refine zL ?_ _ | refine zN ?_ | refine zM ?_ _)); exact BK375.out) hb); have n4_ := zA (zAD (by repeat (first | (with_reducible first | exact HB.out | apply zH | apply zF | apply zG | refine zI ?_ GE375.out) | exact HB.out)) hb); clear HO_5; clear HO_7; clear HO373; clear BK375; clear HB; have HO_5 := n0_; have HO_7 := n1_; have HO373 := n2_; have BK375 := n3_; have HB := n4_; clear n0_ n1_ n2_ n3_ n4_; (try clear hb)) | ((with_reducible refine yB (f := 17) rfl ?_); refine goesL_ (some 152) rfl rfl Try.func17 (by kernel_rfl) rfl #[.slice Ao9 t100.length co9, .int .i64 x124_3] rfl (by (try simp only [zAA, zAB, zAC]); first | done | rfl | (simp only [zZ, zY]; rfl)) ?_; (with_reducible refine (impl_BodyAt.calls k3 _ _ t100 x124_3 t381 t382 false _ ?side1 ?side2 A52.out).mono ?_); (case side1 => repeat (first | exact (yD HO_5.out).2.2 | (with_reducible refine zT ?_ _) | (with_reducible refine zU ?_ _) | (with_reducible refine zV ?_))); (case side2 => exact (yD HO_5.out).2.1); rintro e w95 ⟨rfl, hb⟩; refine ⟨_, rfl, ?_⟩; have n0_ := zA (Kd.R_below (by (with_reducible repeat first | apply zQ | apply zR | apply zS); exact HO_5.out) hb); have n1_ := zA (Kd.R_below (by (with_reducible repeat first | apply zQ | apply zR | apply zS); exact HO_7.out) hb); have n2_ := zA (Kd.R_below (by (with_reducible repeat first | apply zQ | apply zR | apply zS); exact HO373.out) hb); have n3_ := zA (yE (g := gb375) (o := .cells #[.string t366, .string t367, .string t368, .string t369, .bool t370] 35 (0, 0)) (by (with_reducible repeat (first | refine zL ?_ _ | refine zN ?_ | refine zM ?_ _)); exact BK375.out) hb); have n4_ := zA (zAD (by repeat (first | (with_reducible first | exact HB.out | apply zH | apply zF | apply zG | refine zI ?_ GE375.out) | exact HB.out)) hb); clear HO_5; clear HO_7; clear HO373; clear BK375; clear HB; have HO_5 := n0_; have HO_7 := n1_; have HO373 := n2_; have BK375 := n3_; have HB := n4_; clear n0_ n1_ n2_ n3_ n4_; (try clear hb)))
                  go_ret; exact ⟨by first | rfl | (simp <;> rfl) | (simp [*] <;> rfl), by repeat (first | (with_reducible first | exact HB.out | apply zH | apply zF | apply zG | refine zI ?_ GE375.out) | exact HB.out)⟩
               ·replace c56 := Bool.eq_false_iff.mpr c56
                subst c56; have H1 : (some false) = some r := by rw [if_neg (show ¬ (false = true) by decide)] at H; exact H
                clear H; have H := H1; clear H1
                as_aux_lemma =>
                 obtain rfl := Option.some.inj H; go_wp2_with (first | ((with_reducible refine yB (f := 18) rfl ?_); refine goesL_ (some 130) rfl rfl Try.func18 (by kernel_rfl) rfl #[.slice Ao9 t100.length co9, .int .i64 x124_3] rfl (by (try simp only [zAA, zAB, zAC]); first | done | rfl | (simp only [zZ, zY]; rfl)) ?_; (with_reducible refine (impl_ShowSlot.calls k3 _ _ t100 x124_3 t366 t367 t368 t369 t370 t371 true _ ?side1 ?side2 A49.out).mono ?_); (case side1 => repeat (first | exact (yD HO_5.out).2.2 | (with_reducible refine zT ?_ _) | (with_reducible refine zU ?_ _) | (with_reducible refine zV ?_))); (case side2 => exact (yD HO_5.out).2.1); rintro e w96 ⟨v372, rfl, ho0, hb⟩; refine ⟨_, rfl, ?_⟩; have n0_ := zA (Kd.R_below (by (with_reducible repeat first | apply zQ | apply zR | apply zS); exact HO_5.out) hb); have n1_ := zA (Kd.R_below (by (with_reducible repeat first | apply zQ | apply zR | apply zS); exact HO_7.out) hb); have n2_ := zA (Kd.R_lower ho0 (zAE (by (with_reducible repeat first | exact HB.out | apply zH | apply zF | apply zG) <;> exact HB.out))); have n3_ := zA (zAD (by (with_reducible repeat first | exact HB.out | apply zH | apply zF | apply zG) <;> exact HB.out) hb); clear HO_5; clear HO_7; clear HB; have HO_5 := n0_; have HO_7 := n1_; have HO373 := n2_; have HB := n3_; clear n0_ n1_ n2_ n3_; (try clear hb); (try clear ho0)) | ((with_reducible refine gate_dst (N := 19) rfl ?_); refine box_event ?hg (N := 19) ?hd (cs := #[.string (⟨#[]⟩ : ByteArray), .string (⟨#[]⟩ : ByteArray), .string (⟨#[]⟩ : ByteArray), .string (⟨#[]⟩ : ByteArray), .bool false]) (t := 35) ?hr ?_; (case hd => rfl); (case hg => rfl); (case hr => first | (go_simp; done) | (go_simp; rfl)); intro gb375 hg w97 hbox hb; have n0_ := zA (Kd.R_below (Kd.R_elderB (by (with_reducible repeat first | apply zQ | apply zR | apply zS); exact HO_5.out) gb375 (Nat.le_of_eq hg.symm)) hb); have n1_ := zA (Kd.R_below (Kd.R_elderB (by (with_reducible repeat first | apply zQ | apply zR | apply zS); exact HO_7.out) gb375 (Nat.le_of_eq hg.symm)) hb); have n2_ := zA (Kd.R_below (by (with_reducible repeat first | apply zQ | apply zR | apply zS); exact HO373.out) hb); have n3_ := zA (zAD (by (with_reducible repeat first | exact HB.out | apply zH | apply zF | apply zG) <;> exact HB.out) hb); have n4_ := zA (hbox); have n5_ := zA ((by rw [hg]; exact (zAE (by (with_reducible repeat first | exact HB.out | apply zH | apply zF | apply zG) <;> exact HB.out)) : w.heap.size ≤ gb375)); have n6_ := zA ((by rw [hg]; exact (zAE (by (with_reducible repeat first | exact HB.out | apply zH | apply zF | apply zG) <;> exact HB.out)) : w.heap.size ≤ gb375)); clear HO_5; clear HO_7; clear HO373; clear HB; have HO_5 := n0_; have HO_7 := n1_; have HO373 := n2_; have HB := n3_; have BK375 := n4_; have GW375 := n5_; have GE375 := n6_; clear n0_ n1_ n2_ n3_ n4_ n5_ n6_; clear hb hbox hg; have hcz98_0 : w97.cell? ⟨gb375, 0, none⟩ = some (.string (⟨#[]⟩ : ByteArray)) := (zP BK375.out 0).trans rfl; have hcz98_1 : w97.cell? ⟨gb375, 1, none⟩ = some (.string (⟨#[]⟩ : ByteArray)) := (zP BK375.out 1).trans rfl; have hcz98_2 : w97.cell? ⟨gb375, 2, none⟩ = some (.string (⟨#[]⟩ : ByteArray)) := (zP BK375.out 2).trans rfl; have hcz98_3 : w97.cell? ⟨gb375, 3, none⟩ = some (.string (⟨#[]⟩ : ByteArray)) := (zP BK375.out 3).trans rfl; have hcz98_4 : w97.cell? ⟨gb375, 4, none⟩ = some (.bool false) := (zP BK375.out 4).trans rfl; have hfz98_0 := zO BK375.out 0; have hfz98_1 := zO BK375.out 1; have hfz98_2 := zO BK375.out 2; have hfz98_3 := zO BK375.out 3; have hfz98_4 := zO BK375.out 4; obtain ⟨Ao99, co99, eo99⟩ := Kd.R_slice HO373.out; subst eo99) | ((with_reducible refine yB (f := 19) rfl ?_); refine goesL_ (some 139) rfl rfl Try.func19 (by kernel_rfl) rfl #[.string t350, .int .i64 x124_3, .agg #[.string t366, .string t367, .string t368, .string t369, .bool t370], .slice Ao99 t371.length co99] rfl (by (try simp only [zAA, zAB, zAC]); first | done | rfl | (simp only [zZ, zY]; rfl)) ?_; (with_reducible refine (impl_CheckSlot.calls k3 t350 x124_3 t366 t367 t368 t369 t370 _ _ t371 true true _ ?side1 ?side2 A50.out).mono ?_); (case side1 => refine (yD (e := 9) (base := w.heap.size) (ok := fun k_ => True) (n := t371.length) (c := co99) ?_).2.2; exact (by (with_reducible repeat first | apply zQ | apply zR | apply zS); exact (yC (Kd.R_far (p := ⟨gb375, 4, none⟩) (Kd.R_far (p := ⟨gb375, 3, none⟩) (Kd.R_far (p := ⟨gb375, 2, none⟩) (Kd.R_far (p := ⟨gb375, 1, none⟩) (Kd.R_far (p := ⟨gb375, 0, none⟩) (Kd.R_types HO373.out BK375.out (by decide)) (fun _ hk => hk.2) (.string t366)) (fun _ hk => hk.2) (.string t367)) (fun _ hk => hk.2) (.string t368)) (fun _ hk => hk.2) (.string t369)) (fun _ hk => hk.2) (.bool t370)) (fun _ h_ => h_.1)))); (case side2 => exact (yD HO373.out).2.1); rintro e w100 ⟨rfl, hb⟩; refine ⟨_, rfl, ?_⟩; have n0_ := zA (Kd.R_below (by (with_reducible repeat first | apply zQ | apply zR | apply zS); exact (yC (Kd.R_far (p := ⟨gb375, 4, none⟩) (Kd.R_far (p := ⟨gb375, 3, none⟩) (Kd.R_far (p := ⟨gb375, 2, none⟩) (Kd.R_far (p := ⟨gb375, 1, none⟩) (Kd.R_far (p := ⟨gb375, 0, none⟩) (yC HO_5.out (fun k_ hk => (⟨hk, hk.2⟩ : _ ∧ k_ ≠ gb375))) (fun _ hk => hk.2) (.string t366)) (fun _ hk => hk.2) (.string t367)) (fun _ hk => hk.2) (.string t368)) (fun _ hk => hk.2) (.string t369)) (fun _ hk => hk.2) (.bool t370)) (fun _ h_ => h_.1))) hb); have n1_ := zA (Kd.R_below (by (with_reducible repeat first | apply zQ | apply zR | apply zS); exact (yC (Kd.R_far (p := ⟨gb375, 4, none⟩) (Kd.R_far (p := ⟨gb375, 3, none⟩) (Kd.R_far (p := ⟨gb375, 2, none⟩) (Kd.R_far (p := ⟨gb375, 1, none⟩) (Kd.R_far (p := ⟨gb375, 0, none⟩) (yC HO_7.out (fun k_ hk => (⟨hk, hk.2⟩ : _ ∧ k_ ≠ gb375))) (fun _ hk => hk.2) (.string t366)) (fun _ hk => hk.2) (.string t367)) (fun _ hk => hk.2) (.string t368)) (fun _ hk => hk.2) (.string t369)) (fun _ hk => hk.2) (.bool t370)) (fun _ h_ => h_.1))) hb); have n2_ := zA (Kd.R_below (by (with_reducible repeat first | apply zQ | apply zR | apply zS); exact (yC (Kd.R_far (p := ⟨gb375, 4, none⟩) (Kd.R_far (p := ⟨gb375, 3, none⟩) (Kd.R_far (p := ⟨gb375, 2, none⟩) (Kd.R_far (p := ⟨gb375, 1, none⟩) (Kd.R_far (p := ⟨gb375, 0, none⟩) (Kd.R_types HO373.out BK375.out (by decide)) (fun _ hk => hk.2) (.string t366)) (fun _ hk => hk.2) (.string t367)) (fun _ hk => hk.2) (.string t368)) (fun _ hk => hk.2) (.string t369)) (fun _ hk => hk.2) (.bool t370)) (fun _ h_ => h_.1))) hb); have n3_ := zA (yE (g := gb375) (o := .cells #[.string t366, .string t367, .string t368, .string t369, .bool t370] 35 (0, 0)) (by (with_reducible repeat (first | refine zL ?_ _ | refine zN ?_ | refine zM ?_ _)); refine blk_put (cs := #[.string t366, .string t367, .string t368, .string t369, .bool false]) ?_ 4 _ rfl; (with_reducible repeat (first | refine zL ?_ _ | refine zN ?_ | refine zM ?_ _)); refine blk_put (cs := #[.string t366, .string t367, .string t368, .string (⟨#[]⟩ : ByteArray), .bool false]) ?_ 3 _ rfl; (with_reducible repeat (first | refine zL ?_ _ | refine zN ?_ | refine zM ?_ _)); refine blk_put (cs := #[.string t366, .string t367, .string (⟨#[]⟩ : ByteArray), .string (⟨#[]⟩ : ByteArray), .bool false]) ?_ 2 _ rfl; (with_reducible repeat (first | refine zL ?_ _ | refine zN ?_ | refine zM ?_ _)); refine blk_put (cs := #[.string t366, .string (⟨#[]⟩ : ByteArray), .string (⟨#[]⟩ : ByteArray), .string (⟨#[]⟩ : ByteArray), .bool false]) ?_ 1 _ rfl; (with_reducible repeat (first | refine zL ?_ _ | refine zN ?_ | refine zM ?_ _)); refine blk_put (cs := #[.string (⟨#[]⟩ : ByteArray), .string (⟨#[]⟩ : ByteArray), .string (⟨#[]⟩ : ByteArray), .string (⟨#[]⟩ : ByteArray), .bool false]) ?_ 0 _ rfl; (with_reducible repeat (first | refine zL ?_ _ | refine zN ?_ | refine zM ?_ _)); exact BK375.out) hb); have n4_ := zA (zAD (by repeat (first | (with_reducible first | exact HB.out | apply zH | apply zF | apply zG | refine zI ?_ GE375.out) | exact HB.out)) hb); clear HO_5; clear HO_7; clear HO373; clear BK375; clear HB; have HO_5 := n0_; have HO_7 := n1_; have HO373 := n2_; have BK375 := n3_; have HB := n4_; clear n0_ n1_ n2_ n3_ n4_; (try clear hb); (try clear hk)) | ((with_reducible refine yB (f := 17) rfl ?_); refine goesL_ (some 145) rfl rfl Try.func17 (by kernel_rfl) rfl #[.slice Ao30 t337.length co30, .int .i64 x124_3] rfl (by (try simp only [zAA, zAB, zAC]); first | done | rfl | (simp only [zZ, zY]; rfl)) ?_; (with_reducible refine (impl_BodyAt.calls k3 _ _ t337 x124_3 t378 t379 false _ ?side1 ?side2 A51.out).mono ?_); (case side1 => repeat (first | exact (yD HO_7.out).2.2 | (with_reducible refine zT ?_ _) | (with_reducible refine zU ?_ _) | (with_reducible refine zV ?_))); (case side2 => exact (yD HO_7.out).2.1); rintro e w101 ⟨rfl, hb⟩; refine ⟨_, rfl, ?_⟩; have n0_ := zA (Kd.R_below (by (with_reducible repeat first | apply zQ | apply zR | apply zS); exact HO_5.out) hb); have n1_ := zA (Kd.R_below (by (with_reducible repeat first | apply zQ | apply zR | apply zS); exact HO_7.out) hb); have n2_ := zA (Kd.R_below (by (with_reducible repeat first | apply zQ | apply zR | apply zS); exact HO373.out) hb); have n3_ := zA (yE (g := gb375) (o := .cells #[.string t366, .string t367, .string t368, .string t369, .bool t370] 35 (0, 0)) (by (with_reducible repeat (first | refine zL ?_ _ | refine zN ?_ | refine zM ?_ _)); exact BK375.out) hb); have n4_ := zA (zAD (by repeat (first | (with_reducible first | exact HB.out | apply zH | apply zF | apply zG | refine zI ?_ GE375.out) | exact HB.out)) hb); clear HO_5; clear HO_7; clear HO373; clear BK375; clear HB; have HO_5 := n0_; have HO_7 := n1_; have HO373 := n2_; have BK375 := n3_; have HB := n4_; clear n0_ n1_ n2_ n3_ n4_; (try clear hb)) | ((with_reducible refine yB (f := 17) rfl ?_); refine goesL_ (some 152) rfl rfl Try.func17 (by kernel_rfl) rfl #[.slice Ao9 t100.length co9, .int .i64 x124_3] rfl (by (try simp only [zAA, zAB, zAC]); first | done | rfl | (simp only [zZ, zY]; rfl)) ?_; (with_reducible refine (impl_BodyAt.calls k3 _ _ t100 x124_3 t381 t382 t383 _ ?side1 ?side2 A52.out).mono ?_); (case side1 => repeat (first | exact (yD HO_5.out).2.2 | (with_reducible refine zT ?_ _) | (with_reducible refine zU ?_ _) | (with_reducible refine zV ?_))); (case side2 => exact (yD HO_5.out).2.1); rintro e w102 ⟨rfl, hb⟩; refine ⟨_, rfl, ?_⟩; have n0_ := zA (Kd.R_below (by (with_reducible repeat first | apply zQ | apply zR | apply zS); exact HO_5.out) hb); have n1_ := zA (Kd.R_below (by (with_reducible repeat first | apply zQ | apply zR | apply zS); exact HO_7.out) hb); have n2_ := zA (Kd.R_below (by (with_reducible repeat first | apply zQ | apply zR | apply zS); exact HO373.out) hb); have n3_ := zA (yE (g := gb375) (o := .cells #[.string t366, .string t367, .string t368, .string t369, .bool t370] 35 (0, 0)) (by (with_reducible repeat (first | refine zL ?_ _ | refine zN ?_ | refine zM ?_ _)); exact BK375.out) hb); have n4_ := zA (zAD (by repeat (first | (with_reducible first | exact HB.out | apply zH | apply zF | apply zG | refine zI ?_ GE375.out) | exact HB.out)) hb); clear HO_5; clear HO_7; clear HO373; clear BK375; clear HB; have HO_5 := n0_; have HO_7 := n1_; have HO373 := n2_; have BK375 := n3_; have HB := n4_; clear n0_ n1_ n2_ n3_ n4_; (try clear hb)))
                 go_ret; exact ⟨by first | rfl | (simp <;> rfl) | (simp [*] <;> rfl), by repeat (first | (with_reducible first | exact HB.out | apply zH | apply zF | apply zG | refine zI ?_ GE375.out) | exact HB.out)⟩
              ·replace c55 := Bool.eq_false_iff.mpr c55
               subst c55; have H1 : (some false) = some r := by rw [if_neg (show ¬ (false = true) by decide)] at H; exact H
               clear H; have H := H1; clear H1
               as_aux_lemma =>
                obtain rfl := Option.some.inj H; go_wp2_with (first | ((with_reducible refine yB (f := 18) rfl ?_); refine goesL_ (some 130) rfl rfl Try.func18 (by kernel_rfl) rfl #[.slice Ao9 t100.length co9, .int .i64 x124_3] rfl (by (try simp only [zAA, zAB, zAC]); first | done | rfl | (simp only [zZ, zY]; rfl)) ?_; (with_reducible refine (impl_ShowSlot.calls k3 _ _ t100 x124_3 t366 t367 t368 t369 t370 t371 true _ ?side1 ?side2 A49.out).mono ?_); (case side1 => repeat (first | exact (yD HO_5.out).2.2 | (with_reducible refine zT ?_ _) | (with_reducible refine zU ?_ _) | (with_reducible refine zV ?_))); (case side2 => exact (yD HO_5.out).2.1); rintro e w103 ⟨v372, rfl, ho0, hb⟩; refine ⟨_, rfl, ?_⟩; have n0_ := zA (Kd.R_below (by (with_reducible repeat first | apply zQ | apply zR | apply zS); exact HO_5.out) hb); have n1_ := zA (Kd.R_below (by (with_reducible repeat first | apply zQ | apply zR | apply zS); exact HO_7.out) hb); have n2_ := zA (Kd.R_lower ho0 (zAE (by (with_reducible repeat first | exact HB.out | apply zH | apply zF | apply zG) <;> exact HB.out))); have n3_ := zA (zAD (by (with_reducible repeat first | exact HB.out | apply zH | apply zF | apply zG) <;> exact HB.out) hb); clear HO_5; clear HO_7; clear HB; have HO_5 := n0_; have HO_7 := n1_; have HO373 := n2_; have HB := n3_; clear n0_ n1_ n2_ n3_; (try clear hb); (try clear ho0)) | ((with_reducible refine gate_dst (N := 19) rfl ?_); refine box_event ?hg (N := 19) ?hd (cs := #[.string (⟨#[]⟩ : ByteArray), .string (⟨#[]⟩ : ByteArray), .string (⟨#[]⟩ : ByteArray), .string (⟨#[]⟩ : ByteArray), .bool false]) (t := 35) ?hr ?_; (case hd => rfl); (case hg => rfl); (case hr => first | (go_simp; done) | (go_simp; rfl)); intro gb375 hg w104 hbox hb; have n0_ := zA (Kd.R_below (Kd.R_elderB (by (with_reducible repeat first | apply zQ | apply zR | apply zS); exact HO_5.out) gb375 (Nat.le_of_eq hg.symm)) hb); have n1_ := zA (Kd.R_below (Kd.R_elderB (by (with_reducible repeat first | apply zQ | apply zR | apply zS); exact HO_7.out) gb375 (Nat.le_of_eq hg.symm)) hb); have n2_ := zA (Kd.R_below (by (with_reducible repeat first | apply zQ | apply zR | apply zS); exact HO373.out) hb); have n3_ := zA (zAD (by (with_reducible repeat first | exact HB.out | apply zH | apply zF | apply zG) <;> exact HB.out) hb); have n4_ := zA (hbox); have n5_ := zA ((by rw [hg]; exact (zAE (by (with_reducible repeat first | exact HB.out | apply zH | apply zF | apply zG) <;> exact HB.out)) : w.heap.size ≤ gb375)); have n6_ := zA ((by rw [hg]; exact (zAE (by (with_reducible repeat first | exact HB.out | apply zH | apply zF | apply zG) <;> exact HB.out)) : w.heap.size ≤ gb375)); clear HO_5; clear HO_7; clear HO373; clear HB; have HO_5 := n0_; have HO_7 := n1_; have HO373 := n2_; have HB := n3_; have BK375 := n4_; have GW375 := n5_; have GE375 := n6_; clear n0_ n1_ n2_ n3_ n4_ n5_ n6_; clear hb hbox hg; have hcz105_0 : w104.cell? ⟨gb375, 0, none⟩ = some (.string (⟨#[]⟩ : ByteArray)) := (zP BK375.out 0).trans rfl; have hcz105_1 : w104.cell? ⟨gb375, 1, none⟩ = some (.string (⟨#[]⟩ : ByteArray)) := (zP BK375.out 1).trans rfl; have hcz105_2 : w104.cell? ⟨gb375, 2, none⟩ = some (.string (⟨#[]⟩ : ByteArray)) := (zP BK375.out 2).trans rfl; have hcz105_3 : w104.cell? ⟨gb375, 3, none⟩ = some (.string (⟨#[]⟩ : ByteArray)) := (zP BK375.out 3).trans rfl; have hcz105_4 : w104.cell? ⟨gb375, 4, none⟩ = some (.bool false) := (zP BK375.out 4).trans rfl; have hfz105_0 := zO BK375.out 0; have hfz105_1 := zO BK375.out 1; have hfz105_2 := zO BK375.out 2; have hfz105_3 := zO BK375.out 3; have hfz105_4 := zO BK375.out 4; obtain ⟨Ao106, co106, eo106⟩ := Kd.R_slice HO373.out; subst eo106) | ((with_reducible refine yB (f := 19) rfl ?_); refine goesL_ (some 139) rfl rfl Try.func19 (by kernel_rfl) rfl #[.string t350, .int .i64 x124_3, .agg #[.string t366, .string t367, .string t368, .string t369, .bool t370], .slice Ao106 t371.length co106] rfl (by (try simp only [zAA, zAB, zAC]); first | done | rfl | (simp only [zZ, zY]; rfl)) ?_; (with_reducible refine (impl_CheckSlot.calls k3 t350 x124_3 t366 t367 t368 t369 t370 _ _ t371 false true _ ?side1 ?side2 A50.out).mono ?_); (case side1 => refine (yD (e := 9) (base := w.heap.size) (ok := fun k_ => True) (n := t371.length) (c := co106) ?_).2.2; exact (by (with_reducible repeat first | apply zQ | apply zR | apply zS); exact (yC (Kd.R_far (p := ⟨gb375, 4, none⟩) (Kd.R_far (p := ⟨gb375, 3, none⟩) (Kd.R_far (p := ⟨gb375, 2, none⟩) (Kd.R_far (p := ⟨gb375, 1, none⟩) (Kd.R_far (p := ⟨gb375, 0, none⟩) (Kd.R_types HO373.out BK375.out (by decide)) (fun _ hk => hk.2) (.string t366)) (fun _ hk => hk.2) (.string t367)) (fun _ hk => hk.2) (.string t368)) (fun _ hk => hk.2) (.string t369)) (fun _ hk => hk.2) (.bool t370)) (fun _ h_ => h_.1)))); (case side2 => exact (yD HO373.out).2.1); rintro e w107 ⟨rfl, hb⟩; refine ⟨_, rfl, ?_⟩; have n0_ := zA (Kd.R_below (by (with_reducible repeat first | apply zQ | apply zR | apply zS); exact (yC (Kd.R_far (p := ⟨gb375, 4, none⟩) (Kd.R_far (p := ⟨gb375, 3, none⟩) (Kd.R_far (p := ⟨gb375, 2, none⟩) (Kd.R_far (p := ⟨gb375, 1, none⟩) (Kd.R_far (p := ⟨gb375, 0, none⟩) (yC HO_5.out (fun k_ hk => (⟨hk, hk.2⟩ : _ ∧ k_ ≠ gb375))) (fun _ hk => hk.2) (.string t366)) (fun _ hk => hk.2) (.string t367)) (fun _ hk => hk.2) (.string t368)) (fun _ hk => hk.2) (.string t369)) (fun _ hk => hk.2) (.bool t370)) (fun _ h_ => h_.1))) hb); have n1_ := zA (Kd.R_below (by (with_reducible repeat first | apply zQ | apply zR | apply zS); exact (yC (Kd.R_far (p := ⟨gb375, 4, none⟩) (Kd.R_far (p := ⟨gb375, 3, none⟩) (Kd.R_far (p := ⟨gb375, 2, none⟩) (Kd.R_far (p := ⟨gb375, 1, none⟩) (Kd.R_far (p := ⟨gb375, 0, none⟩) (yC HO_7.out (fun k_ hk => (⟨hk, hk.2⟩ : _ ∧ k_ ≠ gb375))) (fun _ hk => hk.2) (.string t366)) (fun _ hk => hk.2) (.string t367)) (fun _ hk => hk.2) (.string t368)) (fun _ hk => hk.2) (.string t369)) (fun _ hk => hk.2) (.bool t370)) (fun _ h_ => h_.1))) hb); have n2_ := zA (Kd.R_below (by (with_reducible repeat first | apply zQ | apply zR | apply zS); exact (yC (Kd.R_far (p := ⟨gb375, 4, none⟩) (Kd.R_far (p := ⟨gb375, 3, none⟩) (Kd.R_far (p := ⟨gb375, 2, none⟩) (Kd.R_far (p := ⟨gb375, 1, none⟩) (Kd.R_far (p := ⟨gb375, 0, none⟩) (Kd.R_types HO373.out BK375.out (by decide)) (fun _ hk => hk.2) (.string t366)) (fun _ hk => hk.2) (.string t367)) (fun _ hk => hk.2) (.string t368)) (fun _ hk => hk.2) (.string t369)) (fun _ hk => hk.2) (.bool t370)) (fun _ h_ => h_.1))) hb); have n3_ := zA (yE (g := gb375) (o := .cells #[.string t366, .string t367, .string t368, .string t369, .bool t370] 35 (0, 0)) (by (with_reducible repeat (first | refine zL ?_ _ | refine zN ?_ | refine zM ?_ _)); refine blk_put (cs := #[.string t366, .string t367, .string t368, .string t369, .bool false]) ?_ 4 _ rfl; (with_reducible repeat (first | refine zL ?_ _ | refine zN ?_ | refine zM ?_ _)); refine blk_put (cs := #[.string t366, .string t367, .string t368, .string (⟨#[]⟩ : ByteArray), .bool false]) ?_ 3 _ rfl; (with_reducible repeat (first | refine zL ?_ _ | refine zN ?_ | refine zM ?_ _)); refine blk_put (cs := #[.string t366, .string t367, .string (⟨#[]⟩ : ByteArray), .string (⟨#[]⟩ : ByteArray), .bool false]) ?_ 2 _ rfl; (with_reducible repeat (first | refine zL ?_ _ | refine zN ?_ | refine zM ?_ _)); refine blk_put (cs := #[.string t366, .string (⟨#[]⟩ : ByteArray), .string (⟨#[]⟩ : ByteArray), .string (⟨#[]⟩ : ByteArray), .bool false]) ?_ 1 _ rfl; (with_reducible repeat (first | refine zL ?_ _ | refine zN ?_ | refine zM ?_ _)); refine blk_put (cs := #[.string (⟨#[]⟩ : ByteArray), .string (⟨#[]⟩ : ByteArray), .string (⟨#[]⟩ : ByteArray), .string (⟨#[]⟩ : ByteArray), .bool false]) ?_ 0 _ rfl; (with_reducible repeat (first | refine zL ?_ _ | refine zN ?_ | refine zM ?_ _)); exact BK375.out) hb); have n4_ := zA (zAD (by repeat (first | (with_reducible first | exact HB.out | apply zH | apply zF | apply zG | refine zI ?_ GE375.out) | exact HB.out)) hb); clear HO_5; clear HO_7; clear HO373; clear BK375; clear HB; have HO_5 := n0_; have HO_7 := n1_; have HO373 := n2_; have BK375 := n3_; have HB := n4_; clear n0_ n1_ n2_ n3_ n4_; (try clear hb); (try clear hk)) | ((with_reducible refine yB (f := 17) rfl ?_); refine goesL_ (some 145) rfl rfl Try.func17 (by kernel_rfl) rfl #[.slice Ao30 t337.length co30, .int .i64 x124_3] rfl (by (try simp only [zAA, zAB, zAC]); first | done | rfl | (simp only [zZ, zY]; rfl)) ?_; (with_reducible refine (impl_BodyAt.calls k3 _ _ t337 x124_3 t378 t379 t380 _ ?side1 ?side2 A51.out).mono ?_); (case side1 => repeat (first | exact (yD HO_7.out).2.2 | (with_reducible refine zT ?_ _) | (with_reducible refine zU ?_ _) | (with_reducible refine zV ?_))); (case side2 => exact (yD HO_7.out).2.1); rintro e w108 ⟨rfl, hb⟩; refine ⟨_, rfl, ?_⟩; have n0_ := zA (Kd.R_below (by (with_reducible repeat first | apply zQ | apply zR | apply zS); exact HO_5.out) hb); have n1_ := zA (Kd.R_below (by (with_reducible repeat first | apply zQ | apply zR | apply zS); exact HO_7.out) hb); have n2_ := zA (Kd.R_below (by (with_reducible repeat first | apply zQ | apply zR | apply zS); exact HO373.out) hb); have n3_ := zA (yE (g := gb375) (o := .cells #[.string t366, .string t367, .string t368, .string t369, .bool t370] 35 (0, 0)) (by (with_reducible repeat (first | refine zL ?_ _ | refine zN ?_ | refine zM ?_ _)); exact BK375.out) hb); have n4_ := zA (zAD (by repeat (first | (with_reducible first | exact HB.out | apply zH | apply zF | apply zG | refine zI ?_ GE375.out) | exact HB.out)) hb); clear HO_5; clear HO_7; clear HO373; clear BK375; clear HB; have HO_5 := n0_; have HO_7 := n1_; have HO373 := n2_; have BK375 := n3_; have HB := n4_; clear n0_ n1_ n2_ n3_ n4_; (try clear hb)) | ((with_reducible refine yB (f := 17) rfl ?_); refine goesL_ (some 152) rfl rfl Try.func17 (by kernel_rfl) rfl #[.slice Ao9 t100.length co9, .int .i64 x124_3] rfl (by (try simp only [zAA, zAB, zAC]); first | done | rfl | (simp only [zZ, zY]; rfl)) ?_; (with_reducible refine (impl_BodyAt.calls k3 _ _ t100 x124_3 t381 t382 t383 _ ?side1 ?side2 A52.out).mono ?_); (case side1 => repeat (first | exact (yD HO_5.out).2.2 | (with_reducible refine zT ?_ _) | (with_reducible refine zU ?_ _) | (with_reducible refine zV ?_))); (case side2 => exact (yD HO_5.out).2.1); rintro e w109 ⟨rfl, hb⟩; refine ⟨_, rfl, ?_⟩; have n0_ := zA (Kd.R_below (by (with_reducible repeat first | apply zQ | apply zR | apply zS); exact HO_5.out) hb); have n1_ := zA (Kd.R_below (by (with_reducible repeat first | apply zQ | apply zR | apply zS); exact HO_7.out) hb); have n2_ := zA (Kd.R_below (by (with_reducible repeat first | apply zQ | apply zR | apply zS); exact HO373.out) hb); have n3_ := zA (yE (g := gb375) (o := .cells #[.string t366, .string t367, .string t368, .string t369, .bool t370] 35 (0, 0)) (by (with_reducible repeat (first | refine zL ?_ _ | refine zN ?_ | refine zM ?_ _)); exact BK375.out) hb); have n4_ := zA (zAD (by repeat (first | (with_reducible first | exact HB.out | apply zH | apply zF | apply zG | refine zI ?_ GE375.out) | exact HB.out)) hb); clear HO_5; clear HO_7; clear HO373; clear BK375; clear HB; have HO_5 := n0_; have HO_7 := n1_; have HO373 := n2_; have BK375 := n3_; have HB := n4_; clear n0_ n1_ n2_ n3_ n4_; (try clear hb)))
                go_ret; exact ⟨by first | rfl | (simp <;> rfl) | (simp [*] <;> rfl), by repeat (first | (with_reducible first | exact HB.out | apply zH | apply zF | apply zG | refine zI ?_ GE375.out) | exact HB.out)⟩
             ·replace c54 := Bool.eq_false_iff.mpr c54
              subst c54; have H1 : (some false) = some r := by rw [if_neg (show ¬ (false = true) by decide)] at H; exact H
              clear H; have H := H1; clear H1
              as_aux_lemma =>
               obtain rfl := Option.some.inj H; go_wp2_with (first | ((with_reducible refine yB (f := 18) rfl ?_); refine goesL_ (some 130) rfl rfl Try.func18 (by kernel_rfl) rfl #[.slice Ao9 t100.length co9, .int .i64 x124_3] rfl (by (try simp only [zAA, zAB, zAC]); first | done | rfl | (simp only [zZ, zY]; rfl)) ?_; (with_reducible refine (impl_ShowSlot.calls k3 _ _ t100 x124_3 t366 t367 t368 t369 t370 t371 true _ ?side1 ?side2 A49.out).mono ?_); (case side1 => repeat (first | exact (yD HO_5.out).2.2 | (with_reducible refine zT ?_ _) | (with_reducible refine zU ?_ _) | (with_reducible refine zV ?_))); (case side2 => exact (yD HO_5.out).2.1); rintro e w110 ⟨v372, rfl, ho0, hb⟩; refine ⟨_, rfl, ?_⟩; have n0_ := zA (Kd.R_below (by (with_reducible repeat first | apply zQ | apply zR | apply zS); exact HO_5.out) hb); have n1_ := zA (Kd.R_below (by (with_reducible repeat first | apply zQ | apply zR | apply zS); exact HO_7.out) hb); have n2_ := zA (Kd.R_lower ho0 (zAE (by (with_reducible repeat first | exact HB.out | apply zH | apply zF | apply zG) <;> exact HB.out))); have n3_ := zA (zAD (by (with_reducible repeat first | exact HB.out | apply zH | apply zF | apply zG) <;> exact HB.out) hb); clear HO_5; clear HO_7; clear HB; have HO_5 := n0_; have HO_7 := n1_; have HO373 := n2_; have HB := n3_; clear n0_ n1_ n2_ n3_; (try clear hb); (try clear ho0)) | ((with_reducible refine gate_dst (N := 19) rfl ?_); refine box_event ?hg (N := 19) ?hd (cs := #[.string (⟨#[]⟩ : ByteArray), .string (⟨#[]⟩ : ByteArray), .string (⟨#[]⟩ : ByteArray), .string (⟨#[]⟩ : ByteArray), .bool false]) (t := 35) ?hr ?_; (case hd => rfl); (case hg => rfl); (case hr => first | (go_simp; done) | (go_simp; rfl)); intro gb375 hg w111 hbox hb; have n0_ := zA (Kd.R_below (Kd.R_elderB (by (with_reducible repeat first | apply zQ | apply zR | apply zS); exact HO_5.out) gb375 (Nat.le_of_eq hg.symm)) hb); have n1_ := zA (Kd.R_below (Kd.R_elderB (by (with_reducible repeat first | apply zQ | apply zR | apply zS); exact HO_7.out) gb375 (Nat.le_of_eq hg.symm)) hb); have n2_ := zA (Kd.R_below (by (with_reducible repeat first | apply zQ | apply zR | apply zS); exact HO373.out) hb); have n3_ := zA (zAD (by (with_reducible repeat first | exact HB.out | apply zH | apply zF | apply zG) <;> exact HB.out) hb); have n4_ := zA (hbox); have n5_ := zA ((by rw [hg]; exact (zAE (by (with_reducible repeat first | exact HB.out | apply zH | apply zF | apply zG) <;> exact HB.out)) : w.heap.size ≤ gb375)); have n6_ := zA ((by rw [hg]; exact (zAE (by (with_reducible repeat first | exact HB.out | apply zH | apply zF | apply zG) <;> exact HB.out)) : w.heap.size ≤ gb375)); clear HO_5; clear HO_7; clear HO373; clear HB; have HO_5 := n0_; have HO_7 := n1_; have HO373 := n2_; have HB := n3_; have BK375 := n4_; have GW375 := n5_; have GE375 := n6_; clear n0_ n1_ n2_ n3_ n4_ n5_ n6_; clear hb hbox hg; have hcz112_0 : w111.cell? ⟨gb375, 0, none⟩ = some (.string (⟨#[]⟩ : ByteArray)) := (zP BK375.out 0).trans rfl; have hcz112_1 : w111.cell? ⟨gb375, 1, none⟩ = some (.string (⟨#[]⟩ : ByteArray)) := (zP BK375.out 1).trans rfl; have hcz112_2 : w111.cell? ⟨gb375, 2, none⟩ = some (.string (⟨#[]⟩ : ByteArray)) := (zP BK375.out 2).trans rfl; have hcz112_3 : w111.cell? ⟨gb375, 3, none⟩ = some (.string (⟨#[]⟩ : ByteArray)) := (zP BK375.out 3).trans rfl; have hcz112_4 : w111.cell? ⟨gb375, 4, none⟩ = some (.bool false) := (zP BK375.out 4).trans rfl; have hfz112_0 := zO BK375.out 0; have hfz112_1 := zO BK375.out 1; have hfz112_2 := zO BK375.out 2; have hfz112_3 := zO BK375.out 3; have hfz112_4 := zO BK375.out 4; obtain ⟨Ao113, co113, eo113⟩ := Kd.R_slice HO373.out; subst eo113) | ((with_reducible refine yB (f := 19) rfl ?_); refine goesL_ (some 139) rfl rfl Try.func19 (by kernel_rfl) rfl #[.string t350, .int .i64 x124_3, .agg #[.string t366, .string t367, .string t368, .string t369, .bool t370], .slice Ao113 t371.length co113] rfl (by (try simp only [zAA, zAB, zAC]); first | done | rfl | (simp only [zZ, zY]; rfl)) ?_; (with_reducible refine (impl_CheckSlot.calls k3 t350 x124_3 t366 t367 t368 t369 t370 _ _ t371 t376 false _ ?side1 ?side2 A50.out).mono ?_); (case side1 => refine (yD (e := 9) (base := w.heap.size) (ok := fun k_ => True) (n := t371.length) (c := co113) ?_).2.2; exact (by (with_reducible repeat first | apply zQ | apply zR | apply zS); exact (yC (Kd.R_far (p := ⟨gb375, 4, none⟩) (Kd.R_far (p := ⟨gb375, 3, none⟩) (Kd.R_far (p := ⟨gb375, 2, none⟩) (Kd.R_far (p := ⟨gb375, 1, none⟩) (Kd.R_far (p := ⟨gb375, 0, none⟩) (Kd.R_types HO373.out BK375.out (by decide)) (fun _ hk => hk.2) (.string t366)) (fun _ hk => hk.2) (.string t367)) (fun _ hk => hk.2) (.string t368)) (fun _ hk => hk.2) (.string t369)) (fun _ hk => hk.2) (.bool t370)) (fun _ h_ => h_.1)))); (case side2 => exact (yD HO373.out).2.1); rintro e w114 ⟨rfl, hb⟩; refine ⟨_, rfl, ?_⟩; have n0_ := zA (Kd.R_below (by (with_reducible repeat first | apply zQ | apply zR | apply zS); exact (yC (Kd.R_far (p := ⟨gb375, 4, none⟩) (Kd.R_far (p := ⟨gb375, 3, none⟩) (Kd.R_far (p := ⟨gb375, 2, none⟩) (Kd.R_far (p := ⟨gb375, 1, none⟩) (Kd.R_far (p := ⟨gb375, 0, none⟩) (yC HO_5.out (fun k_ hk => (⟨hk, hk.2⟩ : _ ∧ k_ ≠ gb375))) (fun _ hk => hk.2) (.string t366)) (fun _ hk => hk.2) (.string t367)) (fun _ hk => hk.2) (.string t368)) (fun _ hk => hk.2) (.string t369)) (fun _ hk => hk.2) (.bool t370)) (fun _ h_ => h_.1))) hb); have n1_ := zA (Kd.R_below (by (with_reducible repeat first | apply zQ | apply zR | apply zS); exact (yC (Kd.R_far (p := ⟨gb375, 4, none⟩) (Kd.R_far (p := ⟨gb375, 3, none⟩) (Kd.R_far (p := ⟨gb375, 2, none⟩) (Kd.R_far (p := ⟨gb375, 1, none⟩) (Kd.R_far (p := ⟨gb375, 0, none⟩) (yC HO_7.out (fun k_ hk => (⟨hk, hk.2⟩ : _ ∧ k_ ≠ gb375))) (fun _ hk => hk.2) (.string t366)) (fun _ hk => hk.2) (.string t367)) (fun _ hk => hk.2) (.string t368)) (fun _ hk => hk.2) (.string t369)) (fun _ hk => hk.2) (.bool t370)) (fun _ h_ => h_.1))) hb); have n2_ := zA (Kd.R_below (by (with_reducible repeat first | apply zQ | apply zR | apply zS); exact (yC (Kd.R_far (p := ⟨gb375, 4, none⟩) (Kd.R_far (p := ⟨gb375, 3, none⟩) (Kd.R_far (p := ⟨gb375, 2, none⟩) (Kd.R_far (p := ⟨gb375, 1, none⟩) (Kd.R_far (p := ⟨gb375, 0, none⟩) (Kd.R_types HO373.out BK375.out (by decide)) (fun _ hk => hk.2) (.string t366)) (fun _ hk => hk.2) (.string t367)) (fun _ hk => hk.2) (.string t368)) (fun _ hk => hk.2) (.string t369)) (fun _ hk => hk.2) (.bool t370)) (fun _ h_ => h_.1))) hb); have n3_ := zA (yE (g := gb375) (o := .cells #[.string t366, .string t367, .string t368, .string t369, .bool t370] 35 (0, 0)) (by (with_reducible repeat (first | refine zL ?_ _ | refine zN ?_ | refine zM ?_ _)); refine blk_put (cs := #[.string t366, .string t367, .string t368, .string t369, .bool false]) ?_ 4 _ rfl; (with_reducible repeat (first | refine zL ?_ _ | refine zN ?_ | refine zM ?_ _)); refine blk_put (cs := #[.string t366, .string t367, .string t368, .string (⟨#[]⟩ : ByteArray), .bool false]) ?_ 3 _ rfl; (with_reducible repeat (first | refine zL ?_ _ | refine zN ?_ | refine zM ?_ _)); refine blk_put (cs := #[.string t366, .string t367, .string (⟨#[]⟩ : ByteArray), .string (⟨#[]⟩ : ByteArray), .bool false]) ?_ 2 _ rfl; (with_reducible repeat (first | refine zL ?_ _ | refine zN ?_ | refine zM ?_ _)); refine blk_put (cs := #[.string t366, .string (⟨#[]⟩ : ByteArray), .string (⟨#[]⟩ : ByteArray), .string (⟨#[]⟩ : ByteArray), .bool false]) ?_ 1 _ rfl; (with_reducible repeat (first | refine zL ?_ _ | refine zN ?_ | refine zM ?_ _)); refine blk_put (cs := #[.string (⟨#[]⟩ : ByteArray), .string (⟨#[]⟩ : ByteArray), .string (⟨#[]⟩ : ByteArray), .string (⟨#[]⟩ : ByteArray), .bool false]) ?_ 0 _ rfl; (with_reducible repeat (first | refine zL ?_ _ | refine zN ?_ | refine zM ?_ _)); exact BK375.out) hb); have n4_ := zA (zAD (by repeat (first | (with_reducible first | exact HB.out | apply zH | apply zF | apply zG | refine zI ?_ GE375.out) | exact HB.out)) hb); clear HO_5; clear HO_7; clear HO373; clear BK375; clear HB; have HO_5 := n0_; have HO_7 := n1_; have HO373 := n2_; have BK375 := n3_; have HB := n4_; clear n0_ n1_ n2_ n3_ n4_; (try clear hb); (try clear hk)) | ((with_reducible refine yB (f := 17) rfl ?_); refine goesL_ (some 145) rfl rfl Try.func17 (by kernel_rfl) rfl #[.slice Ao30 t337.length co30, .int .i64 x124_3] rfl (by (try simp only [zAA, zAB, zAC]); first | done | rfl | (simp only [zZ, zY]; rfl)) ?_; (with_reducible refine (impl_BodyAt.calls k3 _ _ t337 x124_3 t378 t379 t380 _ ?side1 ?side2 A51.out).mono ?_); (case side1 => repeat (first | exact (yD HO_7.out).2.2 | (with_reducible refine zT ?_ _) | (with_reducible refine zU ?_ _) | (with_reducible refine zV ?_))); (case side2 => exact (yD HO_7.out).2.1); rintro e w115 ⟨rfl, hb⟩; refine ⟨_, rfl, ?_⟩; have n0_ := zA (Kd.R_below (by (with_reducible repeat first | apply zQ | apply zR | apply zS); exact HO_5.out) hb); have n1_ := zA (Kd.R_below (by (with_reducible repeat first | apply zQ | apply zR | apply zS); exact HO_7.out) hb); have n2_ := zA (Kd.R_below (by (with_reducible repeat first | apply zQ | apply zR | apply zS); exact HO373.out) hb); have n3_ := zA (yE (g := gb375) (o := .cells #[.string t366, .string t367, .string t368, .string t369, .bool t370] 35 (0, 0)) (by (with_reducible repeat (first | refine zL ?_ _ | refine zN ?_ | refine zM ?_ _)); exact BK375.out) hb); have n4_ := zA (zAD (by repeat (first | (with_reducible first | exact HB.out | apply zH | apply zF | apply zG | refine zI ?_ GE375.out) | exact HB.out)) hb); clear HO_5; clear HO_7; clear HO373; clear BK375; clear HB; have HO_5 := n0_; have HO_7 := n1_; have HO373 := n2_; have BK375 := n3_; have HB := n4_; clear n0_ n1_ n2_ n3_ n4_; (try clear hb)) | ((with_reducible refine yB (f := 17) rfl ?_); refine goesL_ (some 152) rfl rfl Try.func17 (by kernel_rfl) rfl #[.slice Ao9 t100.length co9, .int .i64 x124_3] rfl (by (try simp only [zAA, zAB, zAC]); first | done | rfl | (simp only [zZ, zY]; rfl)) ?_; (with_reducible refine (impl_BodyAt.calls k3 _ _ t100 x124_3 t381 t382 t383 _ ?side1 ?side2 A52.out).mono ?_); (case side1 => repeat (first | exact (yD HO_5.out).2.2 | (with_reducible refine zT ?_ _) | (with_reducible refine zU ?_ _) | (with_reducible refine zV ?_))); (case side2 => exact (yD HO_5.out).2.1); rintro e w116 ⟨rfl, hb⟩; refine ⟨_, rfl, ?_⟩; have n0_ := zA (Kd.R_below (by (with_reducible repeat first | apply zQ | apply zR | apply zS); exact HO_5.out) hb); have n1_ := zA (Kd.R_below (by (with_reducible repeat first | apply zQ | apply zR | apply zS); exact HO_7.out) hb); have n2_ := zA (Kd.R_below (by (with_reducible repeat first | apply zQ | apply zR | apply zS); exact HO373.out) hb); have n3_ := zA (yE (g := gb375) (o := .cells #[.string t366, .string t367, .string t368, .string t369, .bool t370] 35 (0, 0)) (by (with_reducible repeat (first | refine zL ?_ _ | refine zN ?_ | refine zM ?_ _)); exact BK375.out) hb); have n4_ := zA (zAD (by repeat (first | (with_reducible first | exact HB.out | apply zH | apply zF | apply zG | refine zI ?_ GE375.out) | exact HB.out)) hb); clear HO_5; clear HO_7; clear HO373; clear BK375; clear HB; have HO_5 := n0_; have HO_7 := n1_; have HO373 := n2_; have BK375 := n3_; have HB := n4_; clear n0_ n1_ n2_ n3_ n4_; (try clear hb)))
               go_ret; exact ⟨by first | rfl | (simp <;> rfl) | (simp [*] <;> rfl), by repeat (first | (with_reducible first | exact HB.out | apply zH | apply zF | apply zG | refine zI ?_ GE375.out) | exact HB.out)⟩
            ·replace c53 := Bool.eq_false_iff.mpr c53
             subst c53; have H1 : (some false) = some r := by rw [if_neg (show ¬ (false = true) by decide)] at H; exact H
             clear H; have H := H1; clear H1
             as_aux_lemma =>
              obtain rfl := Option.some.inj H; go_wp2_with (first | ((with_reducible refine yB (f := 18) rfl ?_); refine goesL_ (some 130) rfl rfl Try.func18 (by kernel_rfl) rfl #[.slice Ao9 t100.length co9, .int .i64 x124_3] rfl (by (try simp only [zAA, zAB, zAC]); first | done | rfl | (simp only [zZ, zY]; rfl)) ?_; (with_reducible refine (impl_ShowSlot.calls k3 _ _ t100 x124_3 t366 t367 t368 t369 t370 t371 false _ ?side1 ?side2 A49.out).mono ?_); (case side1 => repeat (first | exact (yD HO_5.out).2.2 | (with_reducible refine zT ?_ _) | (with_reducible refine zU ?_ _) | (with_reducible refine zV ?_))); (case side2 => exact (yD HO_5.out).2.1); rintro e w117 ⟨v372, rfl, ho0, hb⟩; refine ⟨_, rfl, ?_⟩; have n0_ := zA (Kd.R_below (by (with_reducible repeat first | apply zQ | apply zR | apply zS); exact HO_5.out) hb); have n1_ := zA (Kd.R_below (by (with_reducible repeat first | apply zQ | apply zR | apply zS); exact HO_7.out) hb); have n2_ := zA (Kd.R_lower ho0 (zAE (by (with_reducible repeat first | exact HB.out | apply zH | apply zF | apply zG) <;> exact HB.out))); have n3_ := zA (zAD (by (with_reducible repeat first | exact HB.out | apply zH | apply zF | apply zG) <;> exact HB.out) hb); clear HO_5; clear HO_7; clear HB; have HO_5 := n0_; have HO_7 := n1_; have HO373 := n2_; have HB := n3_; clear n0_ n1_ n2_ n3_; (try clear hb); (try clear ho0)) | ((with_reducible refine gate_dst (N := 19) rfl ?_); refine box_event ?hg (N := 19) ?hd (cs := #[.string (⟨#[]⟩ : ByteArray), .string (⟨#[]⟩ : ByteArray), .string (⟨#[]⟩ : ByteArray), .string (⟨#[]⟩ : ByteArray), .bool false]) (t := 35) ?hr ?_; (case hd => rfl); (case hg => rfl); (case hr => first | (go_simp; done) | (go_simp; rfl)); intro gb375 hg w118 hbox hb; have n0_ := zA (Kd.R_below (Kd.R_elderB (by (with_reducible repeat first | apply zQ | apply zR | apply zS); exact HO_5.out) gb375 (Nat.le_of_eq hg.symm)) hb); have n1_ := zA (Kd.R_below (Kd.R_elderB (by (with_reducible repeat first | apply zQ | apply zR | apply zS); exact HO_7.out) gb375 (Nat.le_of_eq hg.symm)) hb); have n2_ := zA (Kd.R_below (by (with_reducible repeat first | apply zQ | apply zR | apply zS); exact HO373.out) hb); have n3_ := zA (zAD (by (with_reducible repeat first | exact HB.out | apply zH | apply zF | apply zG) <;> exact HB.out) hb); have n4_ := zA (hbox); have n5_ := zA ((by rw [hg]; exact (zAE (by (with_reducible repeat first | exact HB.out | apply zH | apply zF | apply zG) <;> exact HB.out)) : w.heap.size ≤ gb375)); have n6_ := zA ((by rw [hg]; exact (zAE (by (with_reducible repeat first | exact HB.out | apply zH | apply zF | apply zG) <;> exact HB.out)) : w.heap.size ≤ gb375)); clear HO_5; clear HO_7; clear HO373; clear HB; have HO_5 := n0_; have HO_7 := n1_; have HO373 := n2_; have HB := n3_; have BK375 := n4_; have GW375 := n5_; have GE375 := n6_; clear n0_ n1_ n2_ n3_ n4_ n5_ n6_; clear hb hbox hg; have hcz119_0 : w118.cell? ⟨gb375, 0, none⟩ = some (.string (⟨#[]⟩ : ByteArray)) := (zP BK375.out 0).trans rfl; have hcz119_1 : w118.cell? ⟨gb375, 1, none⟩ = some (.string (⟨#[]⟩ : ByteArray)) := (zP BK375.out 1).trans rfl; have hcz119_2 : w118.cell? ⟨gb375, 2, none⟩ = some (.string (⟨#[]⟩ : ByteArray)) := (zP BK375.out 2).trans rfl; have hcz119_3 : w118.cell? ⟨gb375, 3, none⟩ = some (.string (⟨#[]⟩ : ByteArray)) := (zP BK375.out 3).trans rfl; have hcz119_4 : w118.cell? ⟨gb375, 4, none⟩ = some (.bool false) := (zP BK375.out 4).trans rfl; have hfz119_0 := zO BK375.out 0; have hfz119_1 := zO BK375.out 1; have hfz119_2 := zO BK375.out 2; have hfz119_3 := zO BK375.out 3; have hfz119_4 := zO BK375.out 4; obtain ⟨Ao120, co120, eo120⟩ := Kd.R_slice HO373.out; subst eo120) | ((with_reducible refine yB (f := 19) rfl ?_); refine goesL_ (some 139) rfl rfl Try.func19 (by kernel_rfl) rfl #[.string t350, .int .i64 x124_3, .agg #[.string t366, .string t367, .string t368, .string t369, .bool t370], .slice Ao120 t371.length co120] rfl (by (try simp only [zAA, zAB, zAC]); first | done | rfl | (simp only [zZ, zY]; rfl)) ?_; (with_reducible refine (impl_CheckSlot.calls k3 t350 x124_3 t366 t367 t368 t369 t370 _ _ t371 t376 t377 _ ?side1 ?side2 A50.out).mono ?_); (case side1 => refine (yD (e := 9) (base := w.heap.size) (ok := fun k_ => True) (n := t371.length) (c := co120) ?_).2.2; exact (by (with_reducible repeat first | apply zQ | apply zR | apply zS); exact (yC (Kd.R_far (p := ⟨gb375, 4, none⟩) (Kd.R_far (p := ⟨gb375, 3, none⟩) (Kd.R_far (p := ⟨gb375, 2, none⟩) (Kd.R_far (p := ⟨gb375, 1, none⟩) (Kd.R_far (p := ⟨gb375, 0, none⟩) (Kd.R_types HO373.out BK375.out (by decide)) (fun _ hk => hk.2) (.string t366)) (fun _ hk => hk.2) (.string t367)) (fun _ hk => hk.2) (.string t368)) (fun _ hk => hk.2) (.string t369)) (fun _ hk => hk.2) (.bool t370)) (fun _ h_ => h_.1)))); (case side2 => exact (yD HO373.out).2.1); rintro e w121 ⟨rfl, hb⟩; refine ⟨_, rfl, ?_⟩; have n0_ := zA (Kd.R_below (by (with_reducible repeat first | apply zQ | apply zR | apply zS); exact (yC (Kd.R_far (p := ⟨gb375, 4, none⟩) (Kd.R_far (p := ⟨gb375, 3, none⟩) (Kd.R_far (p := ⟨gb375, 2, none⟩) (Kd.R_far (p := ⟨gb375, 1, none⟩) (Kd.R_far (p := ⟨gb375, 0, none⟩) (yC HO_5.out (fun k_ hk => (⟨hk, hk.2⟩ : _ ∧ k_ ≠ gb375))) (fun _ hk => hk.2) (.string t366)) (fun _ hk => hk.2) (.string t367)) (fun _ hk => hk.2) (.string t368)) (fun _ hk => hk.2) (.string t369)) (fun _ hk => hk.2) (.bool t370)) (fun _ h_ => h_.1))) hb); have n1_ := zA (Kd.R_below (by (with_reducible repeat first | apply zQ | apply zR | apply zS); exact (yC (Kd.R_far (p := ⟨gb375, 4, none⟩) (Kd.R_far (p := ⟨gb375, 3, none⟩) (Kd.R_far (p := ⟨gb375, 2, none⟩) (Kd.R_far (p := ⟨gb375, 1, none⟩) (Kd.R_far (p := ⟨gb375, 0, none⟩) (yC HO_7.out (fun k_ hk => (⟨hk, hk.2⟩ : _ ∧ k_ ≠ gb375))) (fun _ hk => hk.2) (.string t366)) (fun _ hk => hk.2) (.string t367)) (fun _ hk => hk.2) (.string t368)) (fun _ hk => hk.2) (.string t369)) (fun _ hk => hk.2) (.bool t370)) (fun _ h_ => h_.1))) hb); have n2_ := zA (Kd.R_below (by (with_reducible repeat first | apply zQ | apply zR | apply zS); exact (yC (Kd.R_far (p := ⟨gb375, 4, none⟩) (Kd.R_far (p := ⟨gb375, 3, none⟩) (Kd.R_far (p := ⟨gb375, 2, none⟩) (Kd.R_far (p := ⟨gb375, 1, none⟩) (Kd.R_far (p := ⟨gb375, 0, none⟩) (Kd.R_types HO373.out BK375.out (by decide)) (fun _ hk => hk.2) (.string t366)) (fun _ hk => hk.2) (.string t367)) (fun _ hk => hk.2) (.string t368)) (fun _ hk => hk.2) (.string t369)) (fun _ hk => hk.2) (.bool t370)) (fun _ h_ => h_.1))) hb); have n3_ := zA (yE (g := gb375) (o := .cells #[.string t366, .string t367, .string t368, .string t369, .bool t370] 35 (0, 0)) (by (with_reducible repeat (first | refine zL ?_ _ | refine zN ?_ | refine zM ?_ _)); refine blk_put (cs := #[.string t366, .string t367, .string t368, .string t369, .bool false]) ?_ 4 _ rfl; (with_reducible repeat (first | refine zL ?_ _ | refine zN ?_ | refine zM ?_ _)); refine blk_put (cs := #[.string t366, .string t367, .string t368, .string (⟨#[]⟩ : ByteArray), .bool false]) ?_ 3 _ rfl; (with_reducible repeat (first | refine zL ?_ _ | refine zN ?_ | refine zM ?_ _)); refine blk_put (cs := #[.string t366, .string t367, .string (⟨#[]⟩ : ByteArray), .string (⟨#[]⟩ : ByteArray), .bool false]) ?_ 2 _ rfl; (with_reducible repeat (first | refine zL ?_ _ | refine zN ?_ | refine zM ?_ _)); refine blk_put (cs := #[.string t366, .string (⟨#[]⟩ : ByteArray), .string (⟨#[]⟩ : ByteArray), .string (⟨#[]⟩ : ByteArray), .bool false]) ?_ 1 _ rfl; (with_reducible repeat (first | refine zL ?_ _ | refine zN ?_ | refine zM ?_ _)); refine blk_put (cs := #[.string (⟨#[]⟩ : ByteArray), .string (⟨#[]⟩ : ByteArray), .string (⟨#[]⟩ : ByteArray), .string (⟨#[]⟩ : ByteArray), .bool false]) ?_ 0 _ rfl; (with_reducible repeat (first | refine zL ?_ _ | refine zN ?_ | refine zM ?_ _)); exact BK375.out) hb); have n4_ := zA (zAD (by repeat (first | (with_reducible first | exact HB.out | apply zH | apply zF | apply zG | refine zI ?_ GE375.out) | exact HB.out)) hb); clear HO_5; clear HO_7; clear HO373; clear BK375; clear HB; have HO_5 := n0_; have HO_7 := n1_; have HO373 := n2_; have BK375 := n3_; have HB := n4_; clear n0_ n1_ n2_ n3_ n4_; (try clear hb); (try clear hk)) | ((with_reducible refine yB (f := 17) rfl ?_); refine goesL_ (some 145) rfl rfl Try.func17 (by kernel_rfl) rfl #[.slice Ao30 t337.length co30, .int .i64 x124_3] rfl (by (try simp only [zAA, zAB, zAC]); first | done | rfl | (simp only [zZ, zY]; rfl)) ?_; (with_reducible refine (impl_BodyAt.calls k3 _ _ t337 x124_3 t378 t379 t380 _ ?side1 ?side2 A51.out).mono ?_); (case side1 => repeat (first | exact (yD HO_7.out).2.2 | (with_reducible refine zT ?_ _) | (with_reducible refine zU ?_ _) | (with_reducible refine zV ?_))); (case side2 => exact (yD HO_7.out).2.1); rintro e w122 ⟨rfl, hb⟩; refine ⟨_, rfl, ?_⟩; have n0_ := zA (Kd.R_below (by (with_reducible repeat first | apply zQ | apply zR | apply zS); exact HO_5.out) hb); have n1_ := zA (Kd.R_below (by (with_reducible repeat first | apply zQ | apply zR | apply zS); exact HO_7.out) hb); have n2_ := zA (Kd.R_below (by (with_reducible repeat first | apply zQ | apply zR | apply zS); exact HO373.out) hb); have n3_ := zA (yE (g := gb375) (o := .cells #[.string t366, .string t367, .string t368, .string t369, .bool t370] 35 (0, 0)) (by (with_reducible repeat (first | refine zL ?_ _ | refine zN ?_ | refine zM ?_ _)); exact BK375.out) hb); have n4_ := zA (zAD (by repeat (first | (with_reducible first | exact HB.out | apply zH | apply zF | apply zG | refine zI ?_ GE375.out) | exact HB.out)) hb); clear HO_5; clear HO_7; clear HO373; clear BK375; clear HB; have HO_5 := n0_; have HO_7 := n1_; have HO373 := n2_; have BK375 := n3_; have HB := n4_; clear n0_ n1_ n2_ n3_ n4_; (try clear hb)) | ((with_reducible refine yB (f := 17) rfl ?_); refine goesL_ (some 152) rfl rfl Try.func17 (by kernel_rfl) rfl #[.slice Ao9 t100.length co9, .int .i64 x124_3] rfl (by (try simp only [zAA, zAB, zAC]); first | done | rfl | (simp only [zZ, zY]; rfl)) ?_; (with_reducible refine (impl_BodyAt.calls k3 _ _ t100 x124_3 t381 t382 t383 _ ?side1 ?side2 A52.out).mono ?_); (case side1 => repeat (first | exact (yD HO_5.out).2.2 | (with_reducible refine zT ?_ _) | (with_reducible refine zU ?_ _) | (with_reducible refine zV ?_))); (case side2 => exact (yD HO_5.out).2.1); rintro e w123 ⟨rfl, hb⟩; refine ⟨_, rfl, ?_⟩; have n0_ := zA (Kd.R_below (by (with_reducible repeat first | apply zQ | apply zR | apply zS); exact HO_5.out) hb); have n1_ := zA (Kd.R_below (by (with_reducible repeat first | apply zQ | apply zR | apply zS); exact HO_7.out) hb); have n2_ := zA (Kd.R_below (by (with_reducible repeat first | apply zQ | apply zR | apply zS); exact HO373.out) hb); have n3_ := zA (yE (g := gb375) (o := .cells #[.string t366, .string t367, .string t368, .string t369, .bool t370] 35 (0, 0)) (by (with_reducible repeat (first | refine zL ?_ _ | refine zN ?_ | refine zM ?_ _)); exact BK375.out) hb); have n4_ := zA (zAD (by repeat (first | (with_reducible first | exact HB.out | apply zH | apply zF | apply zG | refine zI ?_ GE375.out) | exact HB.out)) hb); clear HO_5; clear HO_7; clear HO373; clear BK375; clear HB; have HO_5 := n0_; have HO_7 := n1_; have HO373 := n2_; have BK375 := n3_; have HB := n4_; clear n0_ n1_ n2_ n3_ n4_; (try clear hb)))
              go_ret; exact ⟨by first | rfl | (simp <;> rfl) | (simp [*] <;> rfl), by repeat (first | (with_reducible first | exact HB.out | apply zH | apply zF | apply zG | refine zI ?_ GE375.out) | exact HB.out)⟩
           ·rw [if_neg c48] at H
            have c48b0 : decide (x124_3 < (t100.length : Int)) = false := decide_eq_false c48; clear c48; replace H := zAF H; obtain ⟨⟨t356, t357⟩, A1240, H⟩ := H; replace H : ((impl_BodyAt.f k3 t356 t357).bind fun bt360 => ((spec_BodyAt.f k3 t356 t357).bind fun bt363 => (if (bt360.2.2 == bt363.2.2) = true then (if (bt360.2.1 == bt363.2.1) = true then (some (bt360.1.toList == bt363.1.toList)) else (some false)) else (some false)))) = some r := H; have A124 := zA A1240; clear A1240; replace H := zAF H; obtain ⟨⟨t360, t361, t362⟩, A1250, H⟩ := H; replace H : ((spec_BodyAt.f k3 t356 t357).bind fun bt363 => (if (t362 == bt363.2.2) = true then (if (t361 == bt363.2.1) = true then (some (t360.toList == bt363.1.toList)) else (some false)) else (some false))) = some r := H; have A125 := zA A1250; clear A1250; replace H := zAF H; obtain ⟨⟨t363, t364, t365⟩, A1260, H⟩ := H; replace H : (if (t362 == t365) = true then (if (t361 == t364) = true then (some (t360.toList == t363.toList)) else (some false)) else (some false)) = some r := H; have A126 := zA A1260; clear A1260
            by_cases c127 : (t362 == t365) = true
            ·rw [if_pos c127] at H
             have c127b0 : (t362 == t365) = true := c127; (try (have c127b1 : decide (t362 = t365) = true := by simpa using c127)); (try (have c127b2 : (t362 == t365) = true := by simpa using c127)); clear c127
             by_cases c128 : (t361 == t364) = true
             ·rw [if_pos c128] at H
              have c128b0 : (t361 == t364) = true := c128; (try (have c128b1 : decide (t361 = t364) = true := by simpa using c128)); (try (have c128b2 : (t361 == t364) = true := by simpa using c128)); clear c128
              as_aux_lemma =>
               obtain rfl := Option.some.inj H; go_wp2_with (first | ((with_reducible refine yB (f := 20) rfl ?_); refine goesL_ (some 192) rfl rfl Try.func20 (by kernel_rfl) rfl #[.slice A1 l1.length c1] rfl (by (try simp only [zAA, zAB, zAC]); first | done | rfl | (simp only [zZ, zY]; rfl)) ?_; (with_reducible refine (spec_DrawBodyAt.calls k3 _ _ l1 t356 t357 _ ?side1 ?side2 A124.out).mono ?_); (case side1 => repeat (first | exact (Kd.C_below HR1.out HB.out) | (with_reducible refine zT ?_ _) | (with_reducible refine zU ?_ _) | (with_reducible refine zV ?_))); (case side2 => exact HC1.out); rintro e w129 ⟨v358, rfl, ho0, hb⟩; refine ⟨_, rfl, ?_⟩; have n0_ := zA (yJ (by (with_reducible repeat first | apply zQ | apply zR | apply zS); exact HO_5.out) (Kd.R_base ho0) hb); have n1_ := zA (yJ (by (with_reducible repeat first | apply zQ | apply zR | apply zS); exact HO_7.out) (Kd.R_base ho0) hb); have n2_ := zA (Kd.R_lower (yK (yK ho0 (Kd.R_lt (by (with_reducible repeat first | apply zQ | apply zR | apply zS); exact HO_5.out))) (Kd.R_lt (by (with_reducible repeat first | apply zQ | apply zR | apply zS); exact HO_7.out))) (zAE (by (with_reducible repeat first | exact HB.out | apply zH | apply zF | apply zG) <;> exact HB.out))); have n3_ := zA (zAD (by (with_reducible repeat first | exact HB.out | apply zH | apply zF | apply zG) <;> exact HB.out) hb); clear HO_5; clear HO_7; clear HB; have HO_5 := n0_; have HO_7 := n1_; have HO359 := n2_; have HB := n3_; clear n0_ n1_ n2_ n3_; (try clear hb); (try clear ho0); obtain ⟨Ao130, co130, eo130⟩ := Kd.R_slice HO359.out; subst eo130) | ((with_reducible refine yB (f := 17) rfl ?_); refine goesL_ (some 198) rfl rfl Try.func17 (by kernel_rfl) rfl #[.slice Ao130 t356.length co130, .int .i64 t357] rfl (by (try simp only [zAA, zAB, zAC]); first | done | rfl | (simp only [zZ, zY]; rfl)) ?_; (with_reducible refine (impl_BodyAt.calls k3 _ _ t356 t357 t360 t361 t362 _ ?side1 ?side2 A125.out).mono ?_); (case side1 => repeat (first | exact (yD HO359.out).2.2 | (with_reducible refine zT ?_ _) | (with_reducible refine zU ?_ _) | (with_reducible refine zV ?_))); (case side2 => exact (yD HO359.out).2.1); rintro e w131 ⟨rfl, hb⟩; refine ⟨_, rfl, ?_⟩; have n0_ := zA (Kd.R_below (by (with_reducible repeat first | apply zQ | apply zR | apply zS); exact HO_5.out) hb); have n1_ := zA (Kd.R_below (by (with_reducible repeat first | apply zQ | apply zR | apply zS); exact HO_7.out) hb); have n2_ := zA (Kd.R_below (by (with_reducible repeat first | apply zQ | apply zR | apply zS); exact HO359.out) hb); have n3_ := zA (zAD (by (with_reducible repeat first | exact HB.out | apply zH | apply zF | apply zG) <;> exact HB.out) hb); clear HO_5; clear HO_7; clear HO359; clear HB; have HO_5 := n0_; have HO_7 := n1_; have HO359 := n2_; have HB := n3_; clear n0_ n1_ n2_ n3_; (try clear hb)) | ((with_reducible refine yB (f := 21) rfl ?_); refine goesL_ (some 205) rfl rfl Try.func21 (by kernel_rfl) rfl #[.slice Ao130 t356.length co130, .int .i64 t357] rfl (by (try simp only [zAA, zAB, zAC]); first | done | rfl | (simp only [zZ, zY]; rfl)) ?_; (with_reducible refine (spec_BodyAt.calls k3 _ _ t356 t357 t363 t364 t365 _ ?side1 ?side2 A126.out).mono ?_); (case side1 => repeat (first | exact (yD HO359.out).2.2 | (with_reducible refine zT ?_ _) | (with_reducible refine zU ?_ _) | (with_reducible refine zV ?_))); (case side2 => exact (yD HO359.out).2.1); rintro e w132 ⟨rfl, hb⟩; refine ⟨_, rfl, ?_⟩; have n0_ := zA (Kd.R_below (by (with_reducible repeat first | apply zQ | apply zR | apply zS); exact HO_5.out) hb); have n1_ := zA (Kd.R_below (by (with_reducible repeat first | apply zQ | apply zR | apply zS); exact HO_7.out) hb); have n2_ := zA (Kd.R_below (by (with_reducible repeat first | apply zQ | apply zR | apply zS); exact HO359.out) hb); have n3_ := zA (zAD (by (with_reducible repeat first | exact HB.out | apply zH | apply zF | apply zG) <;> exact HB.out) hb); clear HO_5; clear HO_7; clear HO359; clear HB; have HO_5 := n0_; have HO_7 := n1_; have HO359 := n2_; have HB := n3_; clear n0_ n1_ n2_ n3_; (try clear hb))); go_ret; exact ⟨by first | rfl | (simp <;> rfl) | (simp [*] <;> rfl), by (with_reducible repeat first | exact HB.out | apply zH | apply zF | apply zG) <;> exact HB.out⟩
             ·rw [if_neg c128] at H
              have c128b0 : (t361 == t364) = false := by simpa using c128
              (try (have c128b1 : decide (t361 = t364) = false := by simpa using c128)); (try (have c128b2 : (t361 == t364) = false := by simpa using c128)); (try (have c128b3 : ¬ (t361 = t364) := by simpa using c128)); clear c128
              as_aux_lemma =>
               obtain rfl := Option.some.inj H; go_wp2_with (first | ((with_reducible refine yB (f := 20) rfl ?_); refine goesL_ (some 192) rfl rfl Try.func20 (by kernel_rfl) rfl #[.slice A1 l1.length c1] rfl (by (try simp only [zAA, zAB, zAC]); first | done | rfl | (simp only [zZ, zY]; rfl)) ?_; (with_reducible refine (spec_DrawBodyAt.calls k3 _ _ l1 t356 t357 _ ?side1 ?side2 A124.out).mono ?_); (case side1 => repeat (first | exact (Kd.C_below HR1.out HB.out) | (with_reducible refine zT ?_ _) | (with_reducible refine zU ?_ _) | (with_reducible refine zV ?_))); (case side2 => exact HC1.out); rintro e w133 ⟨v358, rfl, ho0, hb⟩; refine ⟨_, rfl, ?_⟩; have n0_ := zA (yJ (by (with_reducible repeat first | apply zQ | apply zR | apply zS); exact HO_5.out) (Kd.R_base ho0) hb); have n1_ := zA (yJ (by (with_reducible repeat first | apply zQ | apply zR | apply zS); exact HO_7.out) (Kd.R_base ho0) hb); have n2_ := zA (Kd.R_lower (yK (yK ho0 (Kd.R_lt (by (with_reducible repeat first | apply zQ | apply zR | apply zS); exact HO_5.out))) (Kd.R_lt (by (with_reducible repeat first | apply zQ | apply zR | apply zS); exact HO_7.out))) (zAE (by (with_reducible repeat first | exact HB.out | apply zH | apply zF | apply zG) <;> exact HB.out))); have n3_ := zA (zAD (by (with_reducible repeat first | exact HB.out | apply zH | apply zF | apply zG) <;> exact HB.out) hb); clear HO_5; clear HO_7; clear HB; have HO_5 := n0_; have HO_7 := n1_; have HO359 := n2_; have HB := n3_; clear n0_ n1_ n2_ n3_; (try clear hb); (try clear ho0); obtain ⟨Ao134, co134, eo134⟩ := Kd.R_slice HO359.out; subst eo134) | ((with_reducible refine yB (f := 17) rfl ?_); refine goesL_ (some 198) rfl rfl Try.func17 (by kernel_rfl) rfl #[.slice Ao134 t356.length co134, .int .i64 t357] rfl (by (try simp only [zAA, zAB, zAC]); first | done | rfl | (simp only [zZ, zY]; rfl)) ?_; (with_reducible refine (impl_BodyAt.calls k3 _ _ t356 t357 t360 t361 t362 _ ?side1 ?side2 A125.out).mono ?_); (case side1 => repeat (first | exact (yD HO359.out).2.2 | (with_reducible refine zT ?_ _) | (with_reducible refine zU ?_ _) | (with_reducible refine zV ?_))); (case side2 => exact (yD HO359.out).2.1); rintro e w135 ⟨rfl, hb⟩; refine ⟨_, rfl, ?_⟩; have n0_ := zA (Kd.R_below (by (with_reducible repeat first | apply zQ | apply zR | apply zS); exact HO_5.out) hb); have n1_ := zA (Kd.R_below (by (with_reducible repeat first | apply zQ | apply zR | apply zS); exact HO_7.out) hb); have n2_ := zA (Kd.R_below (by (with_reducible repeat first | apply zQ | apply zR | apply zS); exact HO359.out) hb); have n3_ := zA (zAD (by (with_reducible repeat first | exact HB.out | apply zH | apply zF | apply zG) <;> exact HB.out) hb); clear HO_5; clear HO_7; clear HO359; clear HB; have HO_5 := n0_; have HO_7 := n1_; have HO359 := n2_; have HB := n3_; clear n0_ n1_ n2_ n3_; (try clear hb)) | ((with_reducible refine yB (f := 21) rfl ?_); refine goesL_ (some 205) rfl rfl Try.func21 (by kernel_rfl) rfl #[.slice Ao134 t356.length co134, .int .i64 t357] rfl (by (try simp only [zAA, zAB, zAC]); first | done | rfl | (simp only [zZ, zY]; rfl)) ?_; (with_reducible refine (spec_BodyAt.calls k3 _ _ t356 t357 t363 t364 t365 _ ?side1 ?side2 A126.out).mono ?_); (case side1 => repeat (first | exact (yD HO359.out).2.2 | (with_reducible refine zT ?_ _) | (with_reducible refine zU ?_ _) | (with_reducible refine zV ?_))); (case side2 => exact (yD HO359.out).2.1); rintro e w136 ⟨rfl, hb⟩; refine ⟨_, rfl, ?_⟩; have n0_ := zA (Kd.R_below (by (with_reducible repeat first | apply zQ | apply zR | apply zS); exact HO_5.out) hb); have n1_ := zA (Kd.R_below (by (with_reducible repeat first | apply zQ | apply zR | apply zS); exact HO_7.out) hb); have n2_ := zA (Kd.R_below (by (with_reducible repeat first | apply zQ | apply zR | apply zS); exact HO359.out) hb); have n3_ := zA (zAD (by (with_reducible repeat first | exact HB.out | apply zH | apply zF | apply zG) <;> exact HB.out) hb); clear HO_5; clear HO_7; clear HO359; clear HB; have HO_5 := n0_; have HO_7 := n1_; have HO359 := n2_; have HB := n3_; clear n0_ n1_ n2_ n3_; (try clear hb))); go_ret; exact ⟨by first | rfl | (simp <;> rfl) | (simp [*] <;> rfl), by (with_reducible repeat first | exact HB.out | apply zH | apply zF | apply zG) <;> exact HB.out⟩
            ·rw [if_neg c127] at H
             have c127b0 : (t362 == t365) = false := by simpa using c127
             (try (have c127b1 : decide (t362 = t365) = false := by simpa using c127)); (try (have c127b2 : (t362 == t365) = false := by simpa using c127)); (try (have c127b3 : ¬ (t362 = t365) := by simpa using c127)); clear c127
             as_aux_lemma =>
              obtain rfl := Option.some.inj H; go_wp2_with (first | ((with_reducible refine yB (f := 20) rfl ?_); refine goesL_ (some 192) rfl rfl Try.func20 (by kernel_rfl) rfl #[.slice A1 l1.length c1] rfl (by (try simp only [zAA, zAB, zAC]); first | done | rfl | (simp only [zZ, zY]; rfl)) ?_; (with_reducible refine (spec_DrawBodyAt.calls k3 _ _ l1 t356 t357 _ ?side1 ?side2 A124.out).mono ?_); (case side1 => repeat (first | exact (Kd.C_below HR1.out HB.out) | (with_reducible refine zT ?_ _) | (with_reducible refine zU ?_ _) | (with_reducible refine zV ?_))); (case side2 => exact HC1.out); rintro e w137 ⟨v358, rfl, ho0, hb⟩; refine ⟨_, rfl, ?_⟩; have n0_ := zA (yJ (by (with_reducible repeat first | apply zQ | apply zR | apply zS); exact HO_5.out) (Kd.R_base ho0) hb); have n1_ := zA (yJ (by (with_reducible repeat first | apply zQ | apply zR | apply zS); exact HO_7.out) (Kd.R_base ho0) hb); have n2_ := zA (Kd.R_lower (yK (yK ho0 (Kd.R_lt (by (with_reducible repeat first | apply zQ | apply zR | apply zS); exact HO_5.out))) (Kd.R_lt (by (with_reducible repeat first | apply zQ | apply zR | apply zS); exact HO_7.out))) (zAE (by (with_reducible repeat first | exact HB.out | apply zH | apply zF | apply zG) <;> exact HB.out))); have n3_ := zA (zAD (by (with_reducible repeat first | exact HB.out | apply zH | apply zF | apply zG) <;> exact HB.out) hb); clear HO_5; clear HO_7; clear HB; have HO_5 := n0_; have HO_7 := n1_; have HO359 := n2_; have HB := n3_; clear n0_ n1_ n2_ n3_; (try clear hb); (try clear ho0); obtain ⟨Ao138, co138, eo138⟩ := Kd.R_slice HO359.out; subst eo138) | ((with_reducible refine yB (f := 17) rfl ?_); refine goesL_ (some 198) rfl rfl Try.func17 (by kernel_rfl) rfl #[.slice Ao138 t356.length co138, .int .i64 t357] rfl (by (try simp only [zAA, zAB, zAC]); first | done | rfl | (simp only [zZ, zY]; rfl)) ?_; (with_reducible refine (impl_BodyAt.calls k3 _ _ t356 t357 t360 t361 t362 _ ?side1 ?side2 A125.out).mono ?_); (case side1 => repeat (first | exact (yD HO359.out).2.2 | (with_reducible refine zT ?_ _) | (with_reducible refine zU ?_ _) | (with_reducible refine zV ?_))); (case side2 => exact (yD HO359.out).2.1); rintro e w139 ⟨rfl, hb⟩; refine ⟨_, rfl, ?_⟩; have n0_ := zA (Kd.R_below (by (with_reducible repeat first | apply zQ | apply zR | apply zS); exact HO_5.out) hb); have n1_ := zA (Kd.R_below (by (with_reducible repeat first | apply zQ | apply zR | apply zS); exact HO_7.out) hb); have n2_ := zA (Kd.R_below (by (with_reducible repeat first | apply zQ | apply zR | apply zS); exact HO359.out) hb); have n3_ := zA (zAD (by (with_reducible repeat first | exact HB.out | apply zH | apply zF | apply zG) <;> exact HB.out) hb); clear HO_5; clear HO_7; clear HO359; clear HB; have HO_5 := n0_; have HO_7 := n1_; have HO359 := n2_; have HB := n3_; clear n0_ n1_ n2_ n3_; (try clear hb)) | ((with_reducible refine yB (f := 21) rfl ?_); refine goesL_ (some 205) rfl rfl Try.func21 (by kernel_rfl) rfl #[.slice Ao138 t356.length co138, .int .i64 t357] rfl (by (try simp only [zAA, zAB, zAC]); first | done | rfl | (simp only [zZ, zY]; rfl)) ?_; (with_reducible refine (spec_BodyAt.calls k3 _ _ t356 t357 t363 t364 t365 _ ?side1 ?side2 A126.out).mono ?_); (case side1 => repeat (first | exact (yD HO359.out).2.2 | (with_reducible refine zT ?_ _) | (with_reducible refine zU ?_ _) | (with_reducible refine zV ?_))); (case side2 => exact (yD HO359.out).2.1); rintro e w140 ⟨rfl, hb⟩; refine ⟨_, rfl, ?_⟩; have n0_ := zA (Kd.R_below (by (with_reducible repeat first | apply zQ | apply zR | apply zS); exact HO_5.out) hb); have n1_ := zA (Kd.R_below (by (with_reducible repeat first | apply zQ | apply zR | apply zS); exact HO_7.out) hb); have n2_ := zA (Kd.R_below (by (with_reducible repeat first | apply zQ | apply zR | apply zS); exact HO359.out) hb); have n3_ := zA (zAD (by (with_reducible repeat first | exact HB.out | apply zH | apply zF | apply zG) <;> exact HB.out) hb); clear HO_5; clear HO_7; clear HO359; clear HB; have HO_5 := n0_; have HO_7 := n1_; have HO359 := n2_; have HB := n3_; clear n0_ n1_ n2_ n3_; (try clear hb))); go_ret; exact ⟨by first | rfl | (simp <;> rfl) | (simp [*] <;> rfl), by (with_reducible repeat first | exact HB.out | apply zH | apply zF | apply zG) <;> exact HB.out⟩
     ·replace c24 := Bool.eq_false_iff.mpr c24
      subst c24; have H1 : ((spec_DrawBodyAt.f kj6 l1).bind fun bt384 => ((impl_BodyAt.f kj6 bt384.1 bt384.2).bind fun bt388 => ((spec_BodyAt.f kj6 bt384.1 bt384.2).bind fun bt391 => (if (bt388.2.2 == bt391.2.2) = true then (if (bt388.2.1 == bt391.2.1) = true then (some (bt388.1.toList == bt391.1.toList)) else (some false)) else (some false))))) = some r := by rw [if_neg (show ¬ (false = true) by decide)] at H; exact H
      clear H; have H := H1; clear H1; replace H := zAF H; obtain ⟨⟨t384, t385⟩, A1410, H⟩ := H; replace H : ((impl_BodyAt.f kj6 t384 t385).bind fun bt388 => ((spec_BodyAt.f kj6 t384 t385).bind fun bt391 => (if (bt388.2.2 == bt391.2.2) = true then (if (bt388.2.1 == bt391.2.1) = true then (some (bt388.1.toList == bt391.1.toList)) else (some false)) else (some false)))) = some r := H; have A141 := zA A1410; clear A1410; replace H := zAF H; obtain ⟨⟨t388, t389, t390⟩, A1420, H⟩ := H; replace H : ((spec_BodyAt.f kj6 t384 t385).bind fun bt391 => (if (t390 == bt391.2.2) = true then (if (t389 == bt391.2.1) = true then (some (t388.toList == bt391.1.toList)) else (some false)) else (some false))) = some r := H; have A142 := zA A1420; clear A1420; replace H := zAF H; obtain ⟨⟨t391, t392, t393⟩, A1430, H⟩ := H; replace H : (if (t390 == t393) = true then (if (t389 == t392) = true then (some (t388.toList == t391.toList)) else (some false)) else (some false)) = some r := H; have A143 := zA A1430; clear A1430
      by_cases c144 : (t390 == t393) = true
      ·rw [if_pos c144] at H
       have c144b0 : (t390 == t393) = true := c144; (try (have c144b1 : decide (t390 = t393) = true := by simpa using c144)); (try (have c144b2 : (t390 == t393) = true := by simpa using c144)); clear c144
       by_cases c145 : (t389 == t392) = true
       ·rw [if_pos c145] at H
        have c145b0 : (t389 == t392) = true := c145; (try (have c145b1 : decide (t389 = t392) = true := by simpa using c145)); (try (have c145b2 : (t389 == t392) = true := by simpa using c145)); clear c145
        as_aux_lemma =>
         obtain rfl := Option.some.inj H; go_wp2_with (first | ((with_reducible refine yB (f := 20) rfl ?_); refine goesL_ (some 192) rfl rfl Try.func20 (by kernel_rfl) rfl #[.slice A1 l1.length c1] rfl (by (try simp only [zAA, zAB, zAC]); first | done | rfl | (simp only [zZ, zY]; rfl)) ?_; (with_reducible refine (spec_DrawBodyAt.calls kj6 _ _ l1 t384 t385 _ ?side1 ?side2 A141.out).mono ?_); (case side1 => repeat (first | exact (Kd.C_below HR1.out HB.out) | (with_reducible refine zT ?_ _) | (with_reducible refine zU ?_ _) | (with_reducible refine zV ?_))); (case side2 => exact HC1.out); rintro e w146 ⟨v386, rfl, ho0, hb⟩; refine ⟨_, rfl, ?_⟩; have n0_ := zA (yJ (by (with_reducible repeat first | apply zQ | apply zR | apply zS); exact HO_5.out) (Kd.R_base ho0) hb); have n1_ := zA (yJ (by (with_reducible repeat first | apply zQ | apply zR | apply zS); exact HO_7.out) (Kd.R_base ho0) hb); have n2_ := zA (Kd.R_lower (yK (yK ho0 (Kd.R_lt (by (with_reducible repeat first | apply zQ | apply zR | apply zS); exact HO_5.out))) (Kd.R_lt (by (with_reducible repeat first | apply zQ | apply zR | apply zS); exact HO_7.out))) (zAE (by (with_reducible repeat first | exact HB.out | apply zH | apply zF | apply zG) <;> exact HB.out))); have n3_ := zA (zAD (by (with_reducible repeat first | exact HB.out | apply zH | apply zF | apply zG) <;> exact HB.out) hb); clear HO_5; clear HO_7; clear HB; have HO_5 := n0_; have HO_7 := n1_; have HO387 := n2_; have HB := n3_; clear n0_ n1_ n2_ n3_; (try clear hb); (try clear ho0); obtain ⟨Ao147, co147, eo147⟩ := Kd.R_slice HO387.out; subst eo147) | ((with_reducible refine yB (f := 17) rfl ?_); refine goesL_ (some 198) rfl rfl Try.func17 (by kernel_rfl) rfl #[.slice Ao147 t384.length co147, .int .i64 t385] rfl (by (try simp only [zAA, zAB, zAC]); first | done | rfl | (simp only [zZ, zY]; rfl)) ?_; (with_reducible refine (impl_BodyAt.calls kj6 _ _ t384 t385 t388 t389 t390 _ ?side1 ?side2 A142.out).mono ?_); (case side1 => repeat (first | exact (yD HO387.out).2.2 | (with_reducible refine zT ?_ _) | (with_reducible refine zU ?_ _) | (with_reducible refine zV ?_))); (case side2 => exact (yD HO387.out).2.1); rintro e w148 ⟨rfl, hb⟩; refine ⟨_, rfl, ?_⟩; have n0_ := zA (Kd.R_below (by (with_reducible repeat first | apply zQ | apply zR | apply zS); exact HO_5.out) hb); have n1_ := zA (Kd.R_below (by (with_reducible repeat first | apply zQ | apply zR | apply zS); exact HO_7.out) hb); have n2_ := zA (Kd.R_below (by (with_reducible repeat first | apply zQ | apply zR | apply zS); exact HO387.out) hb); have n3_ := zA (zAD (by (with_reducible repeat first | exact HB.out | apply zH | apply zF | apply zG) <;> exact HB.out) hb); clear HO_5; clear HO_7; clear HO387; clear HB; have HO_5 := n0_; have HO_7 := n1_; have HO387 := n2_; have HB := n3_; clear n0_ n1_ n2_ n3_; (try clear hb)) | ((with_reducible refine yB (f := 21) rfl ?_); refine goesL_ (some 205) rfl rfl Try.func21 (by kernel_rfl) rfl #[.slice Ao147 t384.length co147, .int .i64 t385] rfl (by (try simp only [zAA, zAB, zAC]); first | done | rfl | (simp only [zZ, zY]; rfl)) ?_; (with_reducible refine (spec_BodyAt.calls kj6 _ _ t384 t385 t391 t392 t393 _ ?side1 ?side2 A143.out).mono ?_); (case side1 => repeat (first | exact (yD HO387.out).2.2 | (with_reducible refine zT ?_ _) | (with_reducible refine zU ?_ _) | (with_reducible refine zV ?_))); (case side2 => exact (yD HO387.out).2.1); rintro e w149 ⟨rfl, hb⟩; refine ⟨_, rfl, ?_⟩; have n0_ := zA (Kd.R_below (by (with_reducible repeat first | apply zQ | apply zR | apply zS); exact HO_5.out) hb); have n1_ := zA (Kd.R_below (by (with_reducible repeat first | apply zQ | apply zR | apply zS); exact HO_7.out) hb); have n2_ := zA (Kd.R_below (by (with_reducible repeat first | apply zQ | apply zR | apply zS); exact HO387.out) hb); have n3_ := zA (zAD (by (with_reducible repeat first | exact HB.out | apply zH | apply zF | apply zG) <;> exact HB.out) hb); clear HO_5; clear HO_7; clear HO387; clear HB; have HO_5 := n0_; have HO_7 := n1_; have HO387 := n2_; have HB := n3_; clear n0_ n1_ n2_ n3_; (try clear hb))); go_ret; exact ⟨by first | rfl | (simp <;> rfl) | (simp [*] <;> rfl), by (with_reducible repeat first | exact HB.out | apply zH | apply zF | apply zG) <;> exact HB.out⟩
       ·rw [if_neg c145] at H
        have c145b0 : (t389 == t392) = false := by simpa using c145
        (try (have c145b1 : decide (t389 = t392) = false := by simpa using c145)); (try (have c145b2 : (t389 == t392) = false := by simpa using c145)); (try (have c145b3 : ¬ (t389 = t392) := by simpa using c145)); clear c145
        as_aux_lemma =>
         obtain rfl := Option.some.inj H; go_wp2_with (first | ((with_reducible refine yB (f := 20) rfl ?_); refine goesL_ (some 192) rfl rfl Try.func20 (by kernel_rfl) rfl #[.slice A1 l1.length c1] rfl (by (try simp only [zAA, zAB, zAC]); first | done | rfl | (simp only [zZ, zY]; rfl)) ?_; (with_reducible refine (spec_DrawBodyAt.calls kj6 _ _ l1 t384 t385 _ ?side1 ?side2 A141.out).mono ?_); (case side1 => repeat (first | exact (Kd.C_below HR1.out HB.out) | (with_reducible refine zT ?_ _) | (with_reducible refine zU ?_ _) | (with_reducible refine zV ?_))); (case side2 => exact HC1.out); rintro e w150 ⟨v386, rfl, ho0, hb⟩; refine ⟨_, rfl, ?_⟩; have n0_ := zA (yJ (by (with_reducible repeat first | apply zQ | apply zR | apply zS); exact HO_5.out) (Kd.R_base ho0) hb); have n1_ := zA (yJ (by (with_reducible repeat first | apply zQ | apply zR | apply zS); exact HO_7.out) (Kd.R_base ho0) hb); have n2_ := zA (Kd.R_lower (yK (yK ho0 (Kd.R_lt (by (with_reducible repeat first | apply zQ | apply zR | apply zS); exact HO_5.out))) (Kd.R_lt (by (with_reducible repeat first | apply zQ | apply zR | apply zS); exact HO_7.out))) (zAE (by (with_reducible repeat first | exact HB.out | apply zH | apply zF | apply zG) <;> exact HB.out))); have n3_ := zA (zAD (by (with_reducible repeat first | exact HB.out | apply zH | apply zF | apply zG) <;> exact HB.out) hb); clear HO_5; clear HO_7; clear HB; have HO_5 := n0_; have HO_7 := n1_; have HO387 := n2_; have HB := n3_; clear n0_ n1_ n2_ n3_; (try clear hb); (try clear ho0); obtain ⟨Ao151, co151, eo151⟩ := Kd.R_slice HO387.out; subst eo151) | ((with_reducible refine yB (f := 17) rfl ?_); refine goesL_ (some 198) rfl rfl Try.func17 (by kernel_rfl) rfl #[.slice Ao151 t384.length co151, .int .i64 t385] rfl (by (try simp only [zAA, zAB, zAC]); first | done | rfl | (simp only [zZ, zY]; rfl)) ?_; (with_reducible refine (impl_BodyAt.calls kj6 _ _ t384 t385 t388 t389 t390 _ ?side1 ?side2 A142.out).mono ?_); (case side1 => repeat (first | exact (yD HO387.out).2.2 | (with_reducible refine zT ?_ _) | (with_reducible refine zU ?_ _) | (with_reducible refine zV ?_))); (case side2 => exact (yD HO387.out).2.1); rintro e w152 ⟨rfl, hb⟩; refine ⟨_, rfl, ?_⟩; have n0_ := zA (Kd.R_below (by (with_reducible repeat first | apply zQ | apply zR | apply zS); exact HO_5.out) hb); have n1_ := zA (Kd.R_below (by (with_reducible repeat first | apply zQ | apply zR | apply zS); exact HO_7.out) hb); have n2_ := zA (Kd.R_below (by (with_reducible repeat first | apply zQ | apply zR | apply zS); exact HO387.out) hb); have n3_ := zA (zAD (by (with_reducible repeat first | exact HB.out | apply zH | apply zF | apply zG) <;> exact HB.out) hb); clear HO_5; clear HO_7; clear HO387; clear HB; have HO_5 := n0_; have HO_7 := n1_; have HO387 := n2_; have HB := n3_; clear n0_ n1_ n2_ n3_; (try clear hb)) | ((with_reducible refine yB (f := 21) rfl ?_); refine goesL_ (some 205) rfl rfl Try.func21 (by kernel_rfl) rfl #[.slice Ao151 t384.length co151, .int .i64 t385] rfl (by (try simp only [zAA, zAB, zAC]); first | done | rfl | (simp only [zZ, zY]; rfl)) ?_; (with_reducible refine (spec_BodyAt.calls kj6 _ _ t384 t385 t391 t392 t393 _ ?side1 ?side2 A143.out).mono ?_); (case side1 => repeat (first | exact (yD HO387.out).2.2 | (with_reducible refine zT ?_ _) | (with_reducible refine zU ?_ _) | (with_reducible refine zV ?_))); (case side2 => exact (yD HO387.out).2.1); rintro e w153 ⟨rfl, hb⟩; refine ⟨_, rfl, ?_⟩; have n0_ := zA (Kd.R_below (by (with_reducible repeat first | apply zQ | apply zR | apply zS); exact HO_5.out) hb); have n1_ := zA (Kd.R_below (by (with_reducible repeat first | apply zQ | apply zR | apply zS); exact HO_7.out) hb); have n2_ := zA (Kd.R_below (by (with_reducible repeat first | apply zQ | apply zR | apply zS); exact HO387.out) hb); have n3_ := zA (zAD (by (with_reducible repeat first | exact HB.out | apply zH | apply zF | apply zG) <;> exact HB.out) hb); clear HO_5; clear HO_7; clear HO387; clear HB; have HO_5 := n0_; have HO_7 := n1_; have HO387 := n2_; have HB := n3_; clear n0_ n1_ n2_ n3_; (try clear hb))); go_ret; exact ⟨by first | rfl | (simp <;> rfl) | (simp [*] <;> rfl), by (with_reducible repeat first | exact HB.out | apply zH | apply zF | apply zG) <;> exact HB.out⟩
      ·rw [if_neg c144] at H
       have c144b0 : (t390 == t393) = false := by simpa using c144
       (try (have c144b1 : decide (t390 = t393) = false := by simpa using c144)); (try (have c144b2 : (t390 == t393) = false := by simpa using c144)); (try (have c144b3 : ¬ (t390 = t393) := by simpa using c144)); clear c144
       as_aux_lemma =>
        obtain rfl := Option.some.inj H; go_wp2_with (first | ((with_reducible refine yB (f := 20) rfl ?_); refine goesL_ (some 192) rfl rfl Try.func20 (by kernel_rfl) rfl #[.slice A1 l1.length c1] rfl (by (try simp only [zAA, zAB, zAC]); first | done | rfl | (simp only [zZ, zY]; rfl)) ?_; (with_reducible refine (spec_DrawBodyAt.calls kj6 _ _ l1 t384 t385 _ ?side1 ?side2 A141.out).mono ?_); (case side1 => repeat (first | exact (Kd.C_below HR1.out HB.out) | (with_reducible refine zT ?_ _) | (with_reducible refine zU ?_ _) | (with_reducible refine zV ?_))); (case side2 => exact HC1.out); rintro e w154 ⟨v386, rfl, ho0, hb⟩; refine ⟨_, rfl, ?_⟩; have n0_ := zA (yJ (by (with_reducible repeat first | apply zQ | apply zR | apply zS); exact HO_5.out) (Kd.R_base ho0) hb); have n1_ := zA (yJ (by (with_reducible repeat first | apply zQ | apply zR | apply zS); exact HO_7.out) (Kd.R_base ho0) hb); have n2_ := zA (Kd.R_lower (yK (yK ho0 (Kd.R_lt (by (with_reducible repeat first | apply zQ | apply zR | apply zS); exact HO_5.out))) (Kd.R_lt (by (with_reducible repeat first | apply zQ | apply zR | apply zS); exact HO_7.out))) (zAE (by (with_reducible repeat first | exact HB.out | apply zH | apply zF | apply zG) <;> exact HB.out))); have n3_ := zA (zAD (by (with_reducible repeat first | exact HB.out | apply zH | apply zF | apply zG) <;> exact HB.out) hb); clear HO_5; clear HO_7; clear HB; have HO_5 := n0_; have HO_7 := n1_; have HO387 := n2_; have HB := n3_; clear n0_ n1_ n2_ n3_; (try clear hb); (try clear ho0); obtain ⟨Ao155, co155, eo155⟩ := Kd.R_slice HO387.out; subst eo155) | ((with_reducible refine yB (f := 17) rfl ?_); refine goesL_ (some 198) rfl rfl Try.func17 (by kernel_rfl) rfl #[.slice Ao155 t384.length co155, .int .i64 t385] rfl (by (try simp only [zAA, zAB, zAC]); first | done | rfl | (simp only [zZ, zY]; rfl)) ?_; (with_reducible refine (impl_BodyAt.calls kj6 _ _ t384 t385 t388 t389 t390 _ ?side1 ?side2 A142.out).mono ?_); (case side1 => repeat (first | exact (yD HO387.out).2.2 | (with_reducible refine zT ?_ _) | (with_reducible refine zU ?_ _) | (with_reducible refine zV ?_))); (case side2 => exact (yD HO387.out).2.1); rintro e w156 ⟨rfl, hb⟩; refine ⟨_, rfl, ?_⟩; have n0_ := zA (Kd.R_below (by (with_reducible repeat first | apply zQ | apply zR | apply zS); exact HO_5.out) hb); have n1_ := zA (Kd.R_below (by (with_reducible repeat first | apply zQ | apply zR | apply zS); exact HO_7.out) hb); have n2_ := zA (Kd.R_below (by (with_reducible repeat first | apply zQ | apply zR | apply zS); exact HO387.out) hb); have n3_ := zA (zAD (by (with_reducible repeat first | exact HB.out | apply zH | apply zF | apply zG) <;> exact HB.out) hb); clear HO_5; clear HO_7; clear HO387; clear HB; have HO_5 := n0_; have HO_7 := n1_; have HO387 := n2_; have HB := n3_; clear n0_ n1_ n2_ n3_; (try clear hb)) | ((with_reducible refine yB (f := 21) rfl ?_); refine goesL_ (some 205) rfl rfl Try.func21 (by kernel_rfl) rfl #[.slice Ao155 t384.length co155, .int .i64 t385] rfl (by (try simp only [zAA, zAB, zAC]); first | done | rfl | (simp only [zZ, zY]; rfl)) ?_; (with_reducible refine (spec_BodyAt.calls kj6 _ _ t384 t385 t391 t392 t393 _ ?side1 ?side2 A143.out).mono ?_); (case side1 => repeat (first | exact (yD HO387.out).2.2 | (with_reducible refine zT ?_ _) | (with_reducible refine zU ?_ _) | (with_reducible refine zV ?_))); (case side2 => exact (yD HO387.out).2.1); rintro e w157 ⟨rfl, hb⟩; refine ⟨_, rfl, ?_⟩; have n0_ := zA (Kd.R_below (by (with_reducible repeat first | apply zQ | apply zR | apply zS); exact HO_5.out) hb); have n1_ := zA (Kd.R_below (by (with_reducible repeat first | apply zQ | apply zR | apply zS); exact HO_7.out) hb); have n2_ := zA (Kd.R_below (by (with_reducible repeat first | apply zQ | apply zR | apply zS); exact HO387.out) hb); have n3_ := zA (zAD (by (with_reducible repeat first | exact HB.out | apply zH | apply zF | apply zG) <;> exact HB.out) hb); clear HO_5; clear HO_7; clear HO387; clear HB; have HO_5 := n0_; have HO_7 := n1_; have HO387 := n2_; have HB := n3_; clear n0_ n1_ n2_ n3_; (try clear hb))); go_ret; exact ⟨by first | rfl | (simp <;> rfl) | (simp [*] <;> rfl), by (with_reducible repeat first | exact HB.out | apply zH | apply zF | apply zG) <;> exact HB.out⟩
def laws_FnTaken.Pure : Prop := ∀ (l0 : List Int) (l1 : List Int), l0.length ≤ maxLen → l0.length * 1 ≤ 140737488351232 → (∀ x ∈ l0, (Lit.int .u8 x).wf = true) → l1.length ≤ maxLen → l1.length * 1 ≤ 140737488351232 → (∀ x ∈ l1, (Lit.int .u8 x).wf = true) → ∃ k, laws_FnTaken.f k l0 l1 = some true
theorem laws_FnTaken.walk (P : laws_FnTaken.Pure) (a0 : Option Addr) (len0 cap0 : Nat) (z0 : List Int) (a1 : Option Addr) (len1 cap1 : Nat) (z1 : List Int) (w : World) (w0 : (a0 = none ∧ len0 = 0 ∧ cap0 = 0 ∧ z0 = []) ∨ ∃ x, a0 = some x ∧ len0 ≤ cap0 ∧ cap0 ≤ maxLen ∧ z0.length = cap0 ∧ (∀ i, i < z0.length → w.cell? (x.add i) = some (.int .u8 (z0.getD i 0))) ∧ ∀ n ∈ z0, (Lit.int .u8 n).wf = true) (y0 : len0 * 1 ≤ 140737488351232) (w1 : (a1 = none ∧ len1 = 0 ∧ cap1 = 0 ∧ z1 = []) ∨ ∃ x, a1 = some x ∧ len1 ≤ cap1 ∧ cap1 ≤ maxLen ∧ z1.length = cap1 ∧ (∀ i, i < z1.length → w.cell? (x.add i) = some (.int .u8 (z1.getD i 0))) ∧ ∀ n ∈ z1, (Lit.int .u8 n).wf = true) (y1 : len1 * 1 ≤ 140737488351232) :
  Calls Try.prog 3 #[.slice a0 len0 cap0, .slice a1 len1 cap1] w fun e w' => e = .returned (.bool true) ∧ Below w.heap.size w w' := by
 obtain ⟨l0, rfl, hr0, hm0, hw0, hc0⟩ := ReadsInt.ofRowC w0; obtain ⟨l1, rfl, hr1, hm1, hw1, hc1⟩ := ReadsInt.ofRowC w1; obtain ⟨k, h⟩ := P l0 l1 hm0 y0 hw0 hm1 y1 hw1; refine (laws_FnTaken.calls k _ _ l0 _ _ l1 true w (Kd.C_of_reads (d := (0 : Int)) (h1 := fun _ => rfl) hr0) hc0 (Kd.C_of_reads (d := (0 : Int)) (h1 := fun _ => rfl) hr1) hc1 h).mono ?_; rintro e w' ⟨rfl, hd⟩; exact ⟨rfl, hd⟩
end Go.Proofs.Ytmfipefpmjcddaa.PA
end
section
namespace Go.Proofs.Ytmfipefpmjcddaa.PB
open Go.RowKit Go.Proofs.YtmfipefpmjcddaaW.PrintWords Go.Proofs.YtmfipefpmjcddaaW.PrintLast Go.Proofs.YtmfipefpmjcddaaW.PrintMore
set_option linter.unusedVariables false
theorem ev_pos {α : Type} {c : Prop} [Decidable c] {f g : Nat → Option α} {r : α} (hc : c) (h : Ev f r) : Ev (fun k => if c then f k else g k) r := by
 simp only [if_pos hc]; exact h
theorem ev_neg {α : Type} {c : Prop} [Decidable c] {f g : Nat → Option α} {r : α} (hc : ¬ c) (h : Ev g r) : Ev (fun k => if c then f k else g k) r := by
 simp only [if_neg hc]; exact h
theorem ev_bind {α β : Type} {g : Nat → Option α} {f : Nat → α → Option β} {a : α} {r : β} (h : Ev g a) (k : Ev (fun n => f n a) r) : Ev (fun n => (g n).bind (f n)) r := Ev.bind h k
theorem ev_const {α β : Type} {o : Option α} {f : Nat → α → Option β} {a : α} {r : β} (h : o = some a) (k : Ev (fun n => f n a) r) : Ev (fun n => o.bind (f n)) r := by
 subst h; exact k
theorem ev_of_eq {α : Type} {o : Option α} {r : α} (h : o = some r) : Ev (fun _ => o) r := by subst h; exact Ev.now r
theorem ev_eq {α : Type} {f : Nat → Option α} {r r' : α} (h : Ev f r) (e : r = r') : Ev f r' := e ▸ h
theorem w64 {x : Int} (h0 : -9223372036854775808 ≤ x) (h1 : x ≤ 9223372036854775807) : wrap64 x = x := by
 unfold wrap64; omega
theorem ba_ext {a b : ByteArray} (h : a.toList = b.toList) : a = b := by
 rw [ByteArray.toList_eq, ByteArray.toList_eq] at h
 have h' : a.data = b.data := Array.toList_inj.mp h
 cases a; cases b; simp_all
theorem ba_iff {a b : ByteArray} : a.toList = b.toList ↔ a = b := ⟨ba_ext, fun h => by rw [h]⟩
theorem ba_beq {a b : ByteArray} : (a.toList == b.toList) = decide (a = b) := by
 by_cases h : a = b
 ·subst h; simp
 ·simp [h, ba_iff]
theorem size_toList (s : ByteArray) : s.toList.length = s.size := by rw [ByteArray.toList_eq]; exact data_length s
theorem bt_get (s : ByteArray) (i : Nat) (h : i < s.size) : bt s (i : Int) = ((s.toList.getD i 0).toNat : Int) := by
 rw [ByteArray.toList_eq]
 unfold bt
 rw [dif_pos (by simpa using h)]
 have h' : i < s.data.toList.length := by rw [data_length]; exact h
 simp [List.getD_eq_getElem?_getD, List.getElem?_eq_getElem h']
 rfl
end Go.Proofs.Ytmfipefpmjcddaa.PB
end
section
namespace Go.Proofs.Ytmfipefpmjcddaa.PD
open Go.RowKit Go.Proofs.YtmfipefpmjcddaaW.PrintWords Go.Proofs.YtmfipefpmjcddaaW.PrintLast Go.Proofs.YtmfipefpmjcddaaW.PrintMore Go.Proofs.Ytmfipefpmjcddaa.PB Go.Proofs.Ytmfipefpmjcddaa.PA
set_option linter.unusedVariables false
def dstep (p : Int × Int) (c : UInt8) : Int × Int := ((p.1 + (c.toNat : Int)) % 65521, (p.2 + (p.1 + (c.toNat : Int)) % 65521) % 65521)
def dfold (p : Int × Int) (l : List UInt8) : Int × Int := l.foldl dstep p
def InP (p : Int × Int) : Prop := 0 ≤ p.1 ∧ p.1 < 65521 ∧ 0 ≤ p.2 ∧ p.2 < 65521
theorem dstep_in {p : Int × Int} {c : UInt8} : InP (dstep p c) := by
 unfold InP dstep; refine ⟨?_, ?_, ?_, ?_⟩ <;> simp only <;> omega
theorem dfold_in {p : Int × Int} (h : InP p) (l : List UInt8) : InP (dfold p l) := by
 induction l generalizing p with
 | nil => exact h
 | cons c l ih => exact ih dstep_in
def four (p : Int × Int) : ByteArray := strOfNums [p.2 / 256 % 256, p.2 % 256, p.1 / 256 % 256, p.1 % 256]
def dig (kind : Int) (s : ByteArray) : ByteArray := four (dfold (kind + 1, kind + 1) s.toList)
theorem four_size (p : Int × Int) : (four p).size = 4 := by unfold four; rw [strOfNums_size]; rfl
theorem dig_size (kind : Int) (s : ByteArray) : (dig kind s).size = 4 := four_size _
theorem drop_at (l : List UInt8) (i : Nat) (h : i < l.length) : l.drop i = l.getD i 0 :: l.drop (i + 1) := by
 rw [List.drop_eq_getElem_cons h]; simp [List.getD_eq_getElem?_getD, List.getElem?_eq_getElem h]
theorem step_arith {A B : Int} {c : Nat} (hA : 0 ≤ A ∧ A < 65521 ∧ 0 ≤ B ∧ B < 65521) (hc : c < 256) :
  Int.tmod (wrap64 (A + wrap64 (c : Int))) 65521 = (A + (c : Int)) % 65521 ∧ Int.tmod (wrap64 (B + (A + (c : Int)) % 65521)) 65521 = (B + (A + (c : Int)) % 65521) % 65521 := by
 have h1 : wrap64 (c : Int) = c := w64 (by omega) (by omega)
 have h2 : wrap64 (A + c) = A + c := w64 (by omega) (by omega)
 have h3 : wrap64 (B + (A + (c : Int)) % 65521) = B + (A + (c : Int)) % 65521 := w64 (by omega) (by omega)
 rw [h1, h2, h3, Int.tmod_eq_emod_of_nonneg (by omega), Int.tmod_eq_emod_of_nonneg (by omega)]
 exact ⟨rfl, rfl⟩
theorem feed_spec (s : ByteArray) (hs : s.size ≤ 1000000000000) (L : Int) (hL : 0 ≤ L ∧ L ≤ 1000000000000) : ∀ (d i : Nat) (A B : Int), i + d = s.size → InP (A, B) →
  Ev (fun k => spec_l1Feed.l0 k s (i : Int) A B L) ((dfold (A, B) (s.toList.drop i)).1, (dfold (A, B) (s.toList.drop i)).2, L + s.size) := by
 intro d
 induction d with
 | zero =>
  intro i A B hi hp
  refine Ev.step (f := fun _ => some (A, B, wrap64 (L + (s.size : Int)))) (fun k => ?_) ?_
  ·simp only [spec_l1Feed.l0]; rw [if_neg (by omega)]
  ·rw [List.drop_eq_nil_of_le (by rw [size_toList]; omega)]
   rw [w64 (by omega) (by omega)]
   exact Ev.now _
 | succ d ih =>
  intro i A B hi hp
  have hlt : i < s.size := by omega
  have hb := bt_get s i hlt
  have hc : (s.toList.getD i 0).toNat < 256 := UInt8.toNat_lt _
  have ha := step_arith (A := A) (B := B) hp hc
  refine Ev.step (f := fun k => spec_l1Feed.l0 k s ((i + 1 : Nat) : Int) (dstep (A, B) (s.toList.getD i 0)).1 (dstep (A, B) (s.toList.getD i 0)).2 L) (fun k => ?_) ?_
  ·simp only [spec_l1Feed.l0]; rw [if_pos (by omega), if_pos (by omega), hb, ha.1, ha.2, w64 (x := (i : Int) + 1) (by omega) (by omega)]
   simp only [dstep]
   congr 1
  ·rw [drop_at _ _ (by rw [size_toList]; exact hlt)]
   exact ih (i + 1) _ _ (by omega) dstep_in
theorem feed_impl (s : ByteArray) (hs : s.size ≤ 1000000000000) (L : Int) (hL : 0 ≤ L ∧ L ≤ 1000000000000) : ∀ (d i : Nat) (A B : Int), i + d = s.size → InP (A, B) →
  Ev (fun k => impl_Mix_feed.l0 k s (s.size : Int) (i : Int) A B L) ((dfold (A, B) (s.toList.drop i)).1, (dfold (A, B) (s.toList.drop i)).2, L + s.size) := by
 intro d
 induction d with
 | zero =>
  intro i A B hi hp
  refine Ev.step (f := fun _ => some (A, B, wrap64 (L + (s.size : Int)))) (fun k => ?_) ?_
  ·simp only [impl_Mix_feed.l0]; rw [if_neg (by omega)]
  ·rw [List.drop_eq_nil_of_le (by rw [size_toList]; omega)]
   rw [w64 (by omega) (by omega)]
   exact Ev.now _
 | succ d ih =>
  intro i A B hi hp
  have hlt : i < s.size := by omega
  have hb := bt_get s i hlt
  have hc : (s.toList.getD i 0).toNat < 256 := UInt8.toNat_lt _
  have ha := step_arith (A := A) (B := B) hp hc
  refine Ev.step (f := fun k => impl_Mix_feed.l0 k s (s.size : Int) ((i + 1 : Nat) : Int) (dstep (A, B) (s.toList.getD i 0)).1 (dstep (A, B) (s.toList.getD i 0)).2 L) (fun k => ?_) ?_
  ·simp only [impl_Mix_feed.l0]; rw [if_pos (by omega), if_pos (by omega), if_pos (by omega), hb, ha.1, ha.2, w64 (x := (i : Int) + 1) (by omega) (by omega)]
   simp only [dstep]
   congr 1
  ·rw [drop_at _ _ (by rw [size_toList]; exact hlt)]
   exact ih (i + 1) _ _ (by omega) dstep_in
def Kd_ (c : Int) : Prop := 97 ≤ c ∧ c ≤ 122
theorem digS (kind : Int) (hk : Kd_ kind) (s : ByteArray) (hs : s.size ≤ 1000000000000) : Ev (fun k => spec_l1Digest.f k kind s) (dig kind s) := by
 obtain ⟨h0, h1⟩ := hk
 have e1 : spec_NewMix.f kind = some (kind + 1, kind + 1, 0, true) := by
  unfold spec_NewMix.f spec_l1Kind.f
  rw [if_pos (by omega)]
  simp only [Option.bind_some, decide_eq_true h1, if_true]
  rw [w64 (x := kind) (by omega) (by omega), w64 (by omega) (by omega), Int.add_comm]
 have hp : InP (kind + 1, kind + 1) := by unfold InP; refine ⟨?_, ?_, ?_, ?_⟩ <;> simp only <;> omega
 obtain ⟨K, h⟩ := feed_spec s hs 0 (by omega) s.size 0 (kind + 1) (kind + 1) (by omega) hp
 refine ⟨K, fun k hk => ?_⟩
 have h' := h k hk
 dsimp only at h'
 rw [show ((0 : Nat) : Int) = 0 from rfl] at h'
 unfold spec_l1Digest.f spec_l1Feed.f spec_l1End.f
 simp only [e1, Option.bind_some]
 rw [h']
 simp only [Option.bind_some, List.drop_zero]
 rfl
theorem digI (kind : Int) (hk : Kd_ kind) (s : ByteArray) (hs : s.size ≤ 1000000000000) : Ev (fun k => impl_digest.f k kind s) (dig kind s) := by
 obtain ⟨h0, h1⟩ := hk
 have e1 : impl_newMix.f kind = some (kind + 1, kind + 1, 0) := by
  unfold impl_newMix.f
  rw [w64 (x := kind) (by omega) (by omega), w64 (by omega) (by omega)]
 have hp : InP (kind + 1, kind + 1) := by unfold InP; refine ⟨?_, ?_, ?_, ?_⟩ <;> simp only <;> omega
 obtain ⟨K, h⟩ := feed_impl s hs 0 (by omega) s.size 0 (kind + 1) (kind + 1) (by omega) hp
 refine ⟨K, fun k hk => ?_⟩
 have h' := h k hk
 dsimp only at h'
 rw [show ((0 : Nat) : Int) = 0 from rfl] at h'
 have hq := dfold_in hp s.toList
 unfold impl_digest.f impl_Mix_feed.f impl_Mix_end.f
 simp only [e1, Option.bind_some]
 rw [h']
 simp only [Option.bind_some, List.drop_zero]
 unfold dig four
 generalize dfold (kind + 1, kind + 1) s.toList = p at hq ⊢
 obtain ⟨q0, q1, q2, q3⟩ := hq
 rw [Int.tdiv_eq_ediv_of_nonneg q2, Int.tdiv_eq_ediv_of_nonneg q0, Int.tmod_eq_emod_of_nonneg q2, Int.tmod_eq_emod_of_nonneg q0, w64 (x := p.2 / 256) (by omega) (by omega), w64 (x := p.1 / 256) (by omega) (by omega)]
 rw [Int.emod_emod_of_dvd p.2 (Int.dvd_refl _), Int.emod_emod_of_dvd p.1 (Int.dvd_refl _)]
def one (n : Int) : ByteArray := strOfNums [n % 256]
theorem one_size (n : Int) : (one n).size = 1 := by unfold one; rw [strOfNums_size]; rfl
theorem oneI (n : Int) : impl_oneByte.f n = some (one n) := rfl
end Go.Proofs.Ytmfipefpmjcddaa.PD
end
section
namespace Go.Proofs.Ytmfipefpmjcddaa.PK
open Go.RowKit Go.Proofs.YtmfipefpmjcddaaW.PrintWords Go.Proofs.YtmfipefpmjcddaaW.PrintLast Go.Proofs.YtmfipefpmjcddaaW.PrintMore Go.Proofs.Ytmfipefpmjcddaa.PB Go.Proofs.Ytmfipefpmjcddaa.PD Go.Proofs.Ytmfipefpmjcddaa.PA
set_option linter.unusedVariables false
theorem app_size (a b : ByteArray) : (a ++ b).size = a.size + b.size := ByteArray.size_append
end Go.Proofs.Ytmfipefpmjcddaa.PK
end
section
namespace Go.Proofs.Ytmfipefpmjcddaa.PL
open Go.RowKit Go.Proofs.YtmfipefpmjcddaaW.PrintWords Go.Proofs.YtmfipefpmjcddaaW.PrintLast Go.Proofs.YtmfipefpmjcddaaW.PrintMore Go.Proofs.Ytmfipefpmjcddaa.PB Go.Proofs.Ytmfipefpmjcddaa.PA
set_option linter.unusedVariables false
theorem rdOf_at {α : Type} (d : α) (l : List α) (i : Nat) (h : i < l.length) : rdOf d l (i : Int) = l[i] := by
 simp [rdOf, List.getD_eq_getElem?_getD, List.getElem?_eq_getElem h]
def szL : List ByteArray → Nat
 | [] => 0
 | s :: l => s.size + szL l
def total (l : List ByteArray) : Nat := l.length + szL l
end Go.Proofs.Ytmfipefpmjcddaa.PL
end
section
namespace Go.Proofs.Ytmfipefpmjcddaa.PS

end Go.Proofs.Ytmfipefpmjcddaa.PS
end
section
namespace Go.Proofs.Ytmfipefpmjcddaa.PT
open Go.RowKit Go.Proofs.YtmfipefpmjcddaaW.PrintWords Go.Proofs.YtmfipefpmjcddaaW.PrintLast Go.Proofs.YtmfipefpmjcddaaW.PrintMore Go.Proofs.Ytmfipefpmjcddaa.PB Go.Proofs.Ytmfipefpmjcddaa.PD Go.Proofs.Ytmfipefpmjcddaa.PK Go.Proofs.Ytmfipefpmjcddaa.PL Go.Proofs.Ytmfipefpmjcddaa.PS Go.Proofs.Ytmfipefpmjcddaa.PA
set_option linter.unusedVariables false
theorem inS (a b c : Int) : spec_l1In.f a b c = some (decide (b ≤ a ∧ a ≤ c)) := by
 unfold spec_l1In.f
 by_cases h : a ≥ b
 ·rw [if_pos h]; simp [show b ≤ a from h]
 ·rw [if_neg h]; simp [show ¬ b ≤ a from h]
theorem inI (a b c : Int) : impl_within.f a b c = some (decide (b ≤ a ∧ a ≤ c)) := by
 unfold impl_within.f
 by_cases h : a ≥ b
 ·rw [if_pos h]; simp [show b ≤ a from h]
 ·rw [if_neg h]; simp [show ¬ b ≤ a from h]
end Go.Proofs.Ytmfipefpmjcddaa.PT
end
section
namespace Go.Proofs.Ytmfipefpmjcddaa.PU
open Go.RowKit Go.Proofs.YtmfipefpmjcddaaW.PrintWords Go.Proofs.YtmfipefpmjcddaaW.PrintLast Go.Proofs.YtmfipefpmjcddaaW.PrintMore Go.Proofs.Ytmfipefpmjcddaa.PB Go.Proofs.Ytmfipefpmjcddaa.PD Go.Proofs.Ytmfipefpmjcddaa.PK Go.Proofs.Ytmfipefpmjcddaa.PL Go.Proofs.Ytmfipefpmjcddaa.PS Go.Proofs.Ytmfipefpmjcddaa.PT Go.Proofs.Ytmfipefpmjcddaa.PA
set_option linter.unusedVariables false
theorem idx_any {α : Type} (l : List α) (rf : List α → Int → α) (hrf : ∀ i (h : i < l.length), rf l (i : Int) = l[i]) (L0 : Nat → List α → Int → Int → Option Int) (cl : Nat → α → Option Bool) (p : α → Bool)
  (hstep : ∀ k n i, L0 (k + 1) l n i = if i < n then (if 0 ≤ i then (if i < (l.length : Int) then ((cl k (rf l i)).bind fun t => if t = true then some i else L0 k l n (wrap64 (i + 1))) else none) else none) else some (-1))
  (hp : ∀ x ∈ l, Ev (fun k => cl k x) (p x)) (hl : l.length ≤ 4000000000000000000) : ∃ r, Ev (fun k => L0 k l (l.length : Int) 0) r ∧ decide (r ≥ 0) = l.any p := by
 have key : ∀ (d i : Nat), i + d = l.length → ∃ r, Ev (fun k => L0 k l (l.length : Int) (i : Int)) r ∧ decide (r ≥ 0) = (l.drop i).any p := by
  intro d
  induction d with
  | zero =>
   intro i hi
   refine ⟨-1, Ev.step (f := fun _ => some (-1)) (fun k => ?_) (Ev.now _), ?_⟩
   ·rw [hstep, if_neg (by omega)]
   ·rw [List.drop_eq_nil_of_le (by omega)]; rfl
  | succ d ih =>
   intro i hi
   have hlt : i < l.length := by omega
   have hpx := hp _ (List.getElem_mem hlt)
   rw [List.drop_eq_getElem_cons hlt, List.any_cons]
   have st : ∀ k, L0 (k + 1) l (l.length : Int) (i : Int) = (cl k l[i]).bind fun t => if t = true then some (i : Int) else L0 k l (l.length : Int) ((i + 1 : Nat) : Int) := by
    intro k
    rw [hstep, if_pos (by omega), if_pos (by omega), if_pos (by omega), hrf i hlt, w64 (x := (i : Int) + 1) (by omega) (by omega)]
    rfl
   cases hb : p l[i] with
   | true =>
    rw [hb] at hpx
    refine ⟨(i : Int), Ev.step (f := fun k => (cl k l[i]).bind fun t => if t = true then some (i : Int) else L0 k l (l.length : Int) ((i + 1 : Nat) : Int)) st (ev_bind hpx (ev_pos rfl (Ev.now _))), ?_⟩
    simp only [Bool.true_or]
    exact decide_eq_true (by omega)
   | false =>
    rw [hb] at hpx
    obtain ⟨r, hr, e⟩ := ih (i + 1) (by omega)
    refine ⟨r, Ev.step (f := fun k => (cl k l[i]).bind fun t => if t = true then some (i : Int) else L0 k l (l.length : Int) ((i + 1 : Nat) : Int)) st (ev_bind hpx (ev_neg (by simp) hr)), ?_⟩
    rw [Bool.false_or]; exact e
 obtain ⟨r, hr, e⟩ := key l.length 0 (by omega)
 exact ⟨r, hr, by rw [e, List.drop_zero]⟩
theorem isDigI (s : ByteArray) : impl_isDigest.f s = some (decide (s.size = 4)) := by
 unfold impl_isDigest.f
 refine congrArg some ?_
 by_cases h : s.size = 4
 ·rw [decide_eq_true h, h]; rfl
 ·rw [decide_eq_false h]; exact beq_eq_false_iff_ne.mpr (by omega)
end Go.Proofs.Ytmfipefpmjcddaa.PU
end
section
namespace Go.Proofs.Ytmfipefpmjcddaa.PG

end Go.Proofs.Ytmfipefpmjcddaa.PG
end
section
namespace Go.Proofs.Ytmfipefpmjcddaa.PQ
open Go.RowKit Go.Proofs.YtmfipefpmjcddaaW.PrintWords Go.Proofs.YtmfipefpmjcddaaW.PrintLast Go.Proofs.YtmfipefpmjcddaaW.PrintMore Go.Proofs.Ytmfipefpmjcddaa.PB Go.Proofs.Ytmfipefpmjcddaa.PD Go.Proofs.Ytmfipefpmjcddaa.PK Go.Proofs.Ytmfipefpmjcddaa.PL Go.Proofs.Ytmfipefpmjcddaa.PS Go.Proofs.Ytmfipefpmjcddaa.PT Go.Proofs.Ytmfipefpmjcddaa.PU Go.Proofs.Ytmfipefpmjcddaa.PG Go.Proofs.Ytmfipefpmjcddaa.PA
set_option linter.unusedVariables false
def rowFrom : ByteArray → List ByteArray → ByteArray
 | acc, [] => acc
 | acc, s :: l => rowFrom (acc ++ (one (s.size : Int) ++ s)) l
def rowM (l : List ByteArray) : ByteArray := rowFrom ⟨#[]⟩ l
theorem rowFrom_size (l : List ByteArray) : ∀ acc, (rowFrom acc l).size = acc.size + total l := by
 induction l with
 | nil => intro acc; simp [rowFrom, total, szL]
 | cons s l ih =>
  intro acc
  have e : total (s :: l) = 1 + s.size + total l := by simp only [total, szL, List.length_cons]; omega
  rw [show rowFrom acc (s :: l) = rowFrom (acc ++ (one (s.size : Int) ++ s)) l from rfl, ih, app_size, app_size, one_size, e]; omega
theorem rowM_size (l : List ByteArray) : (rowM l).size = total l := by
 unfold rowM; rw [rowFrom_size]; exact Nat.zero_add _
theorem rowS (l : List ByteArray) (hl : total l ≤ 1000000000) : Ev (fun k => spec_l1Row.f k l) (rowM l) := by
 have hlen : l.length ≤ 1000000000 := by unfold total at hl; omega
 have key : ∀ (d i : Nat) (acc : ByteArray), i + d = l.length → acc.size + total (l.drop i) ≤ 2000000000 → Ev (fun k => spec_l1Row.l0 k acc l (l.length : Int) (i : Int)) (rowFrom acc (l.drop i)) := by
  intro d
  induction d with
  | zero =>
   intro i acc hi _
   rw [List.drop_eq_nil_of_le (by omega)]
   refine Ev.step (f := fun _ => some acc) (fun k => ?_) (Ev.now _)
   simp only [spec_l1Row.l0]; rw [if_neg (by omega)]
  | succ d ih =>
   intro i acc hi ha
   have hlt : i < l.length := by omega
   rw [List.drop_eq_getElem_cons hlt] at ha ⊢
   have e : total (l[i] :: l.drop (i + 1)) = 1 + l[i].size + total (l.drop (i + 1)) := by simp only [total, szL, List.length_cons]; omega
   rw [e] at ha
   refine Ev.step (f := fun k => spec_l1Row.l0 k (acc ++ (one (l[i].size : Int) ++ l[i])) l (l.length : Int) ((i + 1 : Nat) : Int)) (fun k => ?_) ?_
   ·simp only [spec_l1Row.l0]
    rw [if_pos (by omega), if_pos (by omega), if_pos (by omega), rdOf_at _ _ _ hlt, w64 (x := (i : Int) + 1) (by omega) (by omega)]
    have e1 : (strOfNums [(l[i].size : Int) % 256]).size = 1 := by rw [strOfNums_size]; rfl
    simp only [Option.bind_some]
    rw [if_pos (by omega), if_pos (by rw [app_size]; omega)]
    rfl
   ·exact ih (i + 1) _ (by omega) (by rw [app_size, app_size, one_size]; omega)
 exact key l.length 0 ⟨#[]⟩ (by omega) (by rw [List.drop_zero]; show 0 + total l ≤ _; omega)
theorem kindI (c : Int) : impl_isKind.f c = some (decide (97 ≤ c ∧ c ≤ 122)) := by
 unfold impl_isKind.f
 by_cases h : c ≥ 97
 ·rw [if_pos h]; simp [show 97 ≤ c from h]
 ·rw [if_neg h]; simp [show ¬ 97 ≤ c from h]
def digestOfM (kind : Int) (s : ByteArray) : ByteArray × Bool := if (97 ≤ kind ∧ kind ≤ 122) ∧ s.size ≤ 600 then (dig kind s, true) else (⟨#[]⟩, false)
theorem digestOfI (kind : Int) (s : ByteArray) : Ev (fun k => impl_DigestOf.f k kind s) (digestOfM kind s) := by
 unfold digestOfM
 by_cases h1 : 97 ≤ kind ∧ kind ≤ 122
 ·by_cases h2 : s.size ≤ 600
  ·rw [if_pos ⟨h1, h2⟩]
   exact ev_const (kindI kind) (ev_pos (decide_eq_true h1) (ev_neg (by omega) (ev_bind (digI kind h1 s (by omega)) (Ev.now _))))
  ·rw [if_neg (fun h => h2 h.2)]
   exact ev_const (kindI kind) (ev_pos (decide_eq_true h1) (ev_pos (by omega) (Ev.now _)))
 ·rw [if_neg (fun h => h1 h.1)]
  exact ev_const (kindI kind) (ev_neg (by simp [h1]) (Ev.now _))
def small (l : List ByteArray) : Bool := l.all fun s => decide (s.size ≤ 100)
def listDigestM (kind : Int) (l : List ByteArray) : ByteArray × Bool := if l.length ≤ 20 then (if small l = true then digestOfM kind (rowM l) else (⟨#[]⟩, false)) else (⟨#[]⟩, false)
theorem listDigestI (kind : Int) (l : List ByteArray) : Ev (fun k => impl_ListDigest.f k kind l) (listDigestM kind l) := by
 unfold listDigestM impl_ListDigest.f
 by_cases hl : l.length ≤ 20
 ·rw [if_pos hl]
  refine ev_neg (by omega) ?_
  have key : ∀ (d i : Nat) (acc : ByteArray), i + d = l.length → acc.size ≤ 101 * i → Ev (fun k => impl_ListDigest.l0 k kind acc l (l.length : Int) (i : Int)) (if small (l.drop i) = true then digestOfM kind (rowFrom acc (l.drop i)) else (⟨#[]⟩, false)) := by
   intro d
   induction d with
   | zero =>
    intro i acc hi _
    rw [List.drop_eq_nil_of_le (by omega), show small [] = true from rfl, if_pos rfl]
    refine Ev.step (f := fun k => (impl_DigestOf.f k kind acc).bind fun b => some (b.1, b.2)) (fun k => ?_) (ev_bind (digestOfI kind acc) (Ev.now _))
    simp only [impl_ListDigest.l0]; rw [if_neg (by omega)]
   | succ d ih =>
    intro i acc hi ha
    have hlt : i < l.length := by omega
    rw [List.drop_eq_getElem_cons hlt]
    by_cases hs : l[i].size ≤ 100
    ·have e0 : small (l[i] :: l.drop (i + 1)) = small (l.drop (i + 1)) := by simp only [small, List.all_cons, decide_eq_true hs, Bool.true_and]
     rw [e0]
     refine Ev.step (f := fun k => impl_ListDigest.l0 k kind (acc ++ (one (l[i].size : Int) ++ l[i])) l (l.length : Int) ((i + 1 : Nat) : Int)) (fun k => ?_) ?_
     ·simp only [impl_ListDigest.l0]
      rw [if_pos (by omega), if_pos (by omega), if_pos (by omega), rdOf_at _ _ _ hlt, if_neg (by omega), oneI, w64 (x := (i : Int) + 1) (by omega) (by omega)]
      simp only [Option.bind_some]
      rw [if_pos (by rw [one_size]; omega), if_pos (by rw [app_size, one_size]; omega)]
      rfl
     ·exact ih (i + 1) _ (by omega) (by rw [app_size, app_size, one_size]; omega)
    ·have e0 : small (l[i] :: l.drop (i + 1)) = false := by simp only [small, List.all_cons, decide_eq_false hs, Bool.false_and]
     rw [e0, if_neg (by simp)]
     refine Ev.step (f := fun _ => some (⟨#[]⟩, false)) (fun k => ?_) (Ev.now _)
     simp only [impl_ListDigest.l0]
     rw [if_pos (by omega), if_pos (by omega), if_pos (by omega), rdOf_at _ _ _ hlt, if_pos (by omega)]
  have := key l.length 0 ⟨#[]⟩ (by omega) (by simp [ByteArray.size])
  rw [List.drop_zero] at this
  exact this
 ·rw [if_neg hl]
  exact ev_pos (by omega) (Ev.now _)
def nameOk (s : ByteArray) : Bool := decide (1 ≤ (s.size : Int) ∧ (s.size : Int) ≤ 8)
theorem nameS (s : ByteArray) : spec_l15Name.f s = some (nameOk s) := by unfold spec_l15Name.f; rw [inS]; rfl
theorem nameI (s : ByteArray) : impl_isName.f s = some (nameOk s) := by unfold impl_isName.f; rw [inI]; rfl
theorem nameOk_size {s : ByteArray} (h : nameOk s = true) : 1 ≤ s.size ∧ s.size ≤ 8 := by
 have := of_decide_eq_true h
 omega
def threeOk (a b c : ByteArray) : Bool := nameOk a && (nameOk b && decide ((c.size : Int) ≤ 40))
def commitM (a b c : ByteArray) : ByteArray := dig 98 (rowM [a, b, c])
theorem kb : Kd_ 98 := ⟨by decide, by decide⟩
theorem total3 {a b c : ByteArray} (h : threeOk a b c = true) : total [a, b, c] ≤ 100 ∧ c.size ≤ 40 ∧ nameOk a = true ∧ nameOk b = true := by
 simp only [threeOk, Bool.and_eq_true, decide_eq_true_eq] at h
 have h1 := nameOk_size h.1
 have h2 := nameOk_size h.2.1
 have h3 := h.2.2
 simp only [total, szL, List.length_cons, List.length_nil]
 exact ⟨by omega, by omega, h.1, h.2.1⟩
theorem goodS (a b c : ByteArray) : spec_l15Good.f a b c = some (threeOk a b c) := by
 unfold spec_l15Good.f threeOk
 rw [nameS, nameS]
 cases ha : nameOk a <;> cases hb : nameOk b <;> rfl
theorem commitS (a b c : ByteArray) (h : threeOk a b c = true) : Ev (fun k => spec_l15Commit.f k a b c) (commitM a b c) := by
 have ht := (total3 h).1
 exact ev_bind (rowS [a, b, c] (by omega)) (ev_bind (digS 98 kb _ (by rw [rowM_size]; omega)) (Ev.now _))
theorem commitI (a b c : ByteArray) : Ev (fun k => impl_CommitOf.f k a b c) (if threeOk a b c = true then (commitM a b c, true) else (⟨#[]⟩, false)) := by
 refine ev_const (nameI a) ?_
 cases ha : nameOk a with
 | false =>
  have e : threeOk a b c = false := by simp [threeOk, ha]
  rw [e, if_neg (by simp)]
  exact ev_neg (by simp) (Ev.now _)
 | true =>
  refine ev_pos rfl (ev_const (nameI b) ?_)
  cases hb : nameOk b with
  | false =>
   have e : threeOk a b c = false := by simp [threeOk, ha, hb]
   rw [e, if_neg (by simp)]
   exact ev_neg (by simp) (Ev.now _)
  | true =>
   refine ev_pos rfl ?_
   by_cases hc : (c.size : Int) ≤ 40
   ·have e : threeOk a b c = true := by simp [threeOk, ha, hb, hc]
    have ht := total3 e
    rw [e, if_pos rfl]
    refine ev_neg (by omega) (ev_bind (listDigestI 98 [a, b, c]) ?_)
    have h1 := nameOk_size ha
    have h2 := nameOk_size hb
    have hsm : small [a, b, c] = true := by
     simp only [small, List.all_cons, List.all_nil, Bool.and_true, Bool.and_eq_true, decide_eq_true_eq]; omega
    have e2 : listDigestM 98 [a, b, c] = (commitM a b c, true) := by
     unfold listDigestM digestOfM
     rw [if_pos (by simp), if_pos hsm, if_pos ⟨by decide, by rw [rowM_size]; omega⟩]; rfl
    rw [e2]
    exact Ev.now _
   ·have e : threeOk a b c = false := by simp [threeOk, ha, hb, hc]
    rw [e, if_neg (by simp)]
    exact ev_pos (by omega) (Ev.now _)
def emptyB (s : ByteArray) : Bool := s.toList == ([] : List UInt8)
def slotOk (a b c d : ByteArray) (o : Bool) : Bool :=
 if o = true then nameOk a && (decide (c.size = 4) && (emptyB b && emptyB d)) else threeOk a b d && decide (c = commitM a b d)
theorem slotS (a b c d : ByteArray) (o : Bool) : Ev (fun k => spec_l15Slot.f k a b c d o) (slotOk a b c d o) := by
 unfold slotOk spec_l15Slot.f
 cases o with
 | true =>
  refine ev_pos rfl (ev_const (nameS a) ?_)
  rw [if_pos rfl]
  cases ha : nameOk a with
  | false => exact ev_neg (by simp) (Ev.now _)
  | true =>
   refine ev_pos rfl ?_
   rw [Bool.true_and]
   by_cases hc : c.size = 4
   ·refine ev_pos (by omega) ?_
    rw [decide_eq_true hc, Bool.true_and]
    by_cases hb : b.toList = ([] : List UInt8)
    ·refine ev_pos hb ?_
     rw [show emptyB b = true from beq_iff_eq.2 hb, Bool.true_and]
     exact Ev.now _
    ·refine ev_neg hb ?_
     rw [show emptyB b = false from beq_eq_false_iff_ne.2 hb, Bool.false_and]
     exact Ev.now _
   ·refine ev_neg (by omega) ?_
    rw [decide_eq_false hc, Bool.false_and]
    exact Ev.now _
 | false =>
  refine ev_neg (by simp) (ev_const (goodS a b d) ?_)
  rw [if_neg (by simp)]
  cases hg : threeOk a b d with
  | false => exact ev_neg (by simp) (Ev.now _)
  | true =>
   refine ev_pos rfl (ev_bind (commitS a b d hg) ?_)
   rw [Bool.true_and]
   refine ev_eq (Ev.now _) ?_
   rw [ba_beq]
theorem slotI (a b c d : ByteArray) (o : Bool) : Ev (fun k => impl_isSlot.f k a b c d o) (slotOk a b c d o) := by
 unfold slotOk impl_isSlot.f
 cases o with
 | true =>
  refine ev_pos rfl (ev_const (nameI a) ?_)
  rw [if_pos rfl]
  cases ha : nameOk a with
  | false => exact ev_neg (by simp) (Ev.now _)
  | true =>
   refine ev_pos rfl (ev_const (isDigI c) ?_)
   rw [Bool.true_and]
   by_cases hc : c.size = 4
   ·refine ev_pos (decide_eq_true hc) ?_
    rw [decide_eq_true hc, Bool.true_and]
    by_cases hb : b.toList = ([] : List UInt8)
    ·refine ev_pos hb ?_
     rw [show emptyB b = true from beq_iff_eq.2 hb, Bool.true_and]
     exact Ev.now _
    ·refine ev_neg hb ?_
     rw [show emptyB b = false from beq_eq_false_iff_ne.2 hb, Bool.false_and]
     exact Ev.now _
   ·refine ev_neg (by simp [hc]) ?_
    rw [decide_eq_false hc, Bool.false_and]
    exact Ev.now _
 | false =>
  show Ev _ (threeOk a b d && decide (c = commitM a b d))
  refine ev_neg (by simp) (ev_bind (commitI a b d) ?_)
  cases hg : threeOk a b d with
  | false => exact ev_neg (by simp) (Ev.now _)
  | true =>
   refine ev_pos rfl ?_
   rw [Bool.true_and]
   refine ev_eq (Ev.now _) ?_
   show ((commitM a b d).toList == c.toList) = _
   rw [ba_beq]
   by_cases h : c = commitM a b d
   ·rw [decide_eq_true h, h]; simp
   ·rw [decide_eq_false h, decide_eq_false (fun e => h e.symm)]
end Go.Proofs.Ytmfipefpmjcddaa.PQ
end
section
namespace Go.Proofs.Ytmfipefpmjcddaa.PV
open Go.RowKit Go.Proofs.YtmfipefpmjcddaaW.PrintWords Go.Proofs.YtmfipefpmjcddaaW.PrintLast Go.Proofs.YtmfipefpmjcddaaW.PrintMore Go.Proofs.Ytmfipefpmjcddaa.PB Go.Proofs.Ytmfipefpmjcddaa.PD Go.Proofs.Ytmfipefpmjcddaa.PK Go.Proofs.Ytmfipefpmjcddaa.PL Go.Proofs.Ytmfipefpmjcddaa.PS Go.Proofs.Ytmfipefpmjcddaa.PT Go.Proofs.Ytmfipefpmjcddaa.PU Go.Proofs.Ytmfipefpmjcddaa.PG Go.Proofs.Ytmfipefpmjcddaa.PQ Go.Proofs.Ytmfipefpmjcddaa.PA
set_option linter.unusedVariables false
theorem rdI_at (l : List S35) (i : Nat) (h : i < l.length) : rd_T35 l (i : Int) = l[i] := by
 simp [rd_T35, List.getD_eq_getElem?_getD, List.getElem?_eq_getElem h]
def slotB (x : S35) : Bool := slotOk x.f0 x.f1 x.f2 x.f3 x.f4
def shelfOk (l : List S35) : Bool := decide ((l.length : Int) ≤ 20) && l.all slotB
theorem goodShelfS (l : List S35) (hl : l.length ≤ 2000000) : Ev (fun k => spec_GoodShelf.f k l) (shelfOk l) := by
 have key : ∀ (d i : Nat), i + d = l.length → Ev (fun k => spec_GoodShelf.l0 k l l (l.length : Int) (i : Int)) (decide ((l.length : Int) ≤ 20) && (l.drop i).all slotB) := by
  intro d
  induction d with
  | zero =>
   intro i hi
   rw [List.drop_eq_nil_of_le (by omega), List.all_nil, Bool.and_true]
   refine Ev.step (f := fun _ => some (decide ((l.length : Int) ≤ 20))) (fun k => ?_) (Ev.now _)
   simp only [spec_GoodShelf.l0]; rw [if_neg (by omega)]
  | succ d ih =>
   intro i hi
   have hlt : i < l.length := by omega
   rw [List.drop_eq_getElem_cons hlt, List.all_cons]
   refine Ev.step (f := fun k => (spec_l15Slot.f k l[i].f0 l[i].f1 l[i].f2 l[i].f3 l[i].f4).bind fun t => if t = true then spec_GoodShelf.l0 k l l (l.length : Int) ((i + 1 : Nat) : Int) else some false) (fun k => ?_) ?_
   ·simp only [spec_GoodShelf.l0]
    rw [if_pos (by omega), if_pos (by omega), if_pos (by omega), rdI_at l i hlt, w64 (x := (i : Int) + 1) (by omega) (by omega)]
    rfl
   ·refine ev_bind (slotS _ _ _ _ _) ?_
    show Ev _ (decide ((l.length : Int) ≤ 20) && (slotB l[i] && _))
    unfold slotB
    cases hb : slotOk l[i].f0 l[i].f1 l[i].f2 l[i].f3 l[i].f4 with
    | true => rw [Bool.true_and]; exact ev_pos rfl (ih (i + 1) (by omega))
    | false => rw [Bool.false_and, Bool.and_false]; exact ev_neg (by simp) (Ev.now _)
 exact key l.length 0 (by omega)
theorem goodShelfI (l : List S35) (hl : l.length ≤ 2000000) : Ev (fun k => impl_GoodShelf.f k l) (shelfOk l) := by
 unfold shelfOk impl_GoodShelf.f
 by_cases h : (l.length : Int) ≤ 20
 ·refine ev_pos h ?_
  rw [decide_eq_true h, Bool.true_and]
  obtain ⟨r, hr, e⟩ := idx_any l rd_T35 (fun i h => rdI_at l i h) slices_IndexFunc_impl_GoodShelf_1.l0 (fun k x => impl_GoodShelf_1.f k x.f0 x.f1 x.f2 x.f3 x.f4) (fun x => !slotB x) (fun k n i => rfl) (fun x _ => ev_bind (f := fun _ t => some (!t)) (slotI _ _ _ _ _) (Ev.now _)) (by omega)
  have hc : Ev (fun k => slices_ContainsFunc_impl_GoodShelf_1.f k l) (l.any fun x => !slotB x) := by
   rw [← e]
   exact ev_bind (f := fun _ t => some (decide (t ≥ 0))) hr (Ev.now _)
  refine ev_eq (ev_bind (f := fun _ t => some (!t)) hc (Ev.now _)) ?_
  have : ∀ l : List S35, (!(l.any fun x => !slotB x)) = l.all slotB := by
   intro l
   induction l with
   | nil => rfl
   | cons a l ih => simp only [List.any_cons, List.all_cons, Bool.not_or, Bool.not_not, ih]
  exact this l
 ·refine ev_neg h ?_
  rw [decide_eq_false h]
  exact Ev.now _
end Go.Proofs.Ytmfipefpmjcddaa.PV
end
section
namespace Go.Proofs.Ytmfipefpmjcddaa.PW

end Go.Proofs.Ytmfipefpmjcddaa.PW
end
section
namespace Go.Proofs.Ytmfipefpmjcddaa.PX

end Go.Proofs.Ytmfipefpmjcddaa.PX
end
section
namespace Go.Proofs.Ytmfipefpmjcddaa.PY

end Go.Proofs.Ytmfipefpmjcddaa.PY
end
section
namespace Go.Proofs.Ytmfipefpmjcddaa.PZ
open Go.RowKit Go.Proofs.YtmfipefpmjcddaaW.PrintWords Go.Proofs.YtmfipefpmjcddaaW.PrintLast Go.Proofs.YtmfipefpmjcddaaW.PrintMore Go.Proofs.Ytmfipefpmjcddaa.PB Go.Proofs.Ytmfipefpmjcddaa.PD Go.Proofs.Ytmfipefpmjcddaa.PK Go.Proofs.Ytmfipefpmjcddaa.PL Go.Proofs.Ytmfipefpmjcddaa.PS Go.Proofs.Ytmfipefpmjcddaa.PT Go.Proofs.Ytmfipefpmjcddaa.PU Go.Proofs.Ytmfipefpmjcddaa.PG Go.Proofs.Ytmfipefpmjcddaa.PQ Go.Proofs.Ytmfipefpmjcddaa.PV Go.Proofs.Ytmfipefpmjcddaa.PW Go.Proofs.Ytmfipefpmjcddaa.PX Go.Proofs.Ytmfipefpmjcddaa.PY Go.Proofs.Ytmfipefpmjcddaa.PA
set_option linter.unusedVariables false
abbrev slotT (x : S35) : ByteArray := x.f0 ++ x.f2
abbrev textsM (l : List S35) : List ByteArray := l.map slotT
theorem slotB_facts {x : S35} (h : slotB x = true) : 1 ≤ x.f0.size ∧ x.f0.size ≤ 8 ∧ x.f2.size = 4 := by
 unfold slotB slotOk at h
 cases o : x.f4 with
 | true =>
  rw [o, if_pos rfl, Bool.and_eq_true, Bool.and_eq_true] at h
  have h1 := of_decide_eq_true h.1
  have h2 := of_decide_eq_true h.2.1
  exact ⟨by omega, by omega, h2⟩
 | false =>
  rw [o, if_neg (by simp), Bool.and_eq_true] at h
  have h2 := of_decide_eq_true h.2
  unfold threeOk at h
  rw [Bool.and_eq_true] at h
  have h1 := of_decide_eq_true h.1.1
  refine ⟨by omega, by omega, ?_⟩
  rw [h2]; exact dig_size _ _
theorem shelf_len {l : List S35} (h : shelfOk l = true) : l.length ≤ 20 := by
 unfold shelfOk at h
 simp only [Bool.and_eq_true, decide_eq_true_eq] at h
 omega
theorem shelf_mem {l : List S35} (h : shelfOk l = true) : ∀ x ∈ l, slotB x = true := by
 unfold shelfOk at h
 simp only [Bool.and_eq_true] at h
 exact fun x hx => List.all_eq_true.1 h.2 x hx
theorem textsI (l : List S35) (hl : l.length ≤ 2000000) (hs : ∀ x ∈ l, x.f0.size ≤ 1000000000 ∧ x.f2.size ≤ 1000000000) : Ev (fun k => impl_commits.f k l) (textsM l) := by
 have key : ∀ (d i : Nat), i + d = l.length → Ev (fun k => impl_commits.l0 k ((l.take i).map slotT) l (l.length : Int) (i : Int)) (textsM l) := by
  intro d
  induction d with
  | zero =>
   intro i hi
   rw [List.take_of_length_le (by omega)]
   refine Ev.step (f := fun _ => some (textsM l)) (fun k => ?_) (Ev.now _)
   simp only [impl_commits.l0]; rw [if_neg (by omega)]
  | succ d ih =>
   intro i hi
   have hlt : i < l.length := by omega
   have hz := hs _ (List.getElem_mem hlt)
   have e : (l.take (i + 1)).map slotT = (l.take i).map slotT ++ [l[i].f0 ++ l[i].f2] := by
    rw [List.take_succ_eq_append_getElem hlt, List.map_append]; rfl
   have hx := ih (i + 1) (by omega)
   rw [e] at hx
   refine Ev.step (f := fun k => impl_commits.l0 k ((l.take i).map slotT ++ [l[i].f0 ++ l[i].f2]) l (l.length : Int) ((i + 1 : Nat) : Int)) (fun k => ?_) hx
   have hll : ((l.take i).map slotT).length < 8796093022208 := by rw [List.length_map, List.length_take]; omega
   simp only [impl_commits.l0]
   rw [if_pos (by omega), if_pos (by omega), if_pos (by omega), PV.rdI_at l i hlt, if_pos (by omega), if_pos hll, w64 (x := (i : Int) + 1) (by omega) (by omega)]
   rfl
 exact key l.length 0 (by omega)
theorem shelf_small {l : List S35} (h : shelfOk l = true) : ∀ x ∈ l, x.f0.size ≤ 1000000000 ∧ x.f2.size ≤ 1000000000 := fun x hx => by
 have := slotB_facts (shelf_mem h x hx)
 exact ⟨by omega, by omega⟩
theorem texts_small {l : List S35} (h : shelfOk l = true) : small (textsM l) = true ∧ total (textsM l) ≤ 260 := by
 have key : ∀ l : List S35, (∀ x ∈ l, slotB x = true) → small (textsM l) = true ∧ total (textsM l) ≤ 13 * l.length := by
  intro l
  induction l with
  | nil => intro _; exact ⟨rfl, by simp [total, szL]⟩
  | cons a l ih =>
   intro h
   obtain ⟨h1, h2⟩ := ih (fun x hx => h x (List.mem_cons_of_mem _ hx))
   have ha := slotB_facts (h a List.mem_cons_self)
   have e : (slotT a).size = a.f0.size + a.f2.size := app_size _ _
   simp only [textsM, List.map_cons, small, List.all_cons, total, szL, List.length_cons, List.length_map] at h1 h2 ⊢
   refine ⟨?_, by omega⟩
   rw [h1, Bool.and_true]
   exact decide_eq_true (by omega)
 obtain ⟨h1, h2⟩ := key l (shelf_mem h)
 have := shelf_len h
 exact ⟨h1, by omega⟩
def shelfDigestM (l : List S35) : ByteArray × Bool := if shelfOk l = true then (dig 115 (rowM (textsM l)), true) else (⟨#[]⟩, false)
theorem shelfDigestI (l : List S35) (hl : l.length ≤ 2000000) : Ev (fun k => impl_ShelfDigest.f k l) (shelfDigestM l) := by
 refine ev_bind (goodShelfI l hl) ?_
 unfold shelfDigestM
 cases h : shelfOk l with
 | false => exact ev_neg (by simp) (Ev.now _)
 | true =>
  have hz := texts_small h
  have hn := shelf_len h
  refine ev_pos rfl (ev_bind (textsI l hl (shelf_small h)) (ev_bind (listDigestI 115 _) (ev_eq (Ev.now _) ?_)))
  unfold listDigestM digestOfM
  rw [if_pos (by rw [List.length_map]; exact hn), if_pos hz.1, if_pos ⟨by decide, by rw [rowM_size]; omega⟩]
  rfl
end Go.Proofs.Ytmfipefpmjcddaa.PZ
end
section
namespace Go.Proofs.Ytmfipefpmjcddaa.PM
open Go.RowKit Go.Proofs.YtmfipefpmjcddaaW.PrintWords Go.Proofs.YtmfipefpmjcddaaW.PrintLast Go.Proofs.YtmfipefpmjcddaaW.PrintMore Go.Proofs.Ytmfipefpmjcddaa.PB Go.Proofs.Ytmfipefpmjcddaa.PL Go.Proofs.Ytmfipefpmjcddaa.PG Go.Proofs.Ytmfipefpmjcddaa.PV Go.Proofs.Ytmfipefpmjcddaa.PA
set_option linter.unusedVariables false
theorem there_two (l : List S35) (k0 : Int) (hl : l.length ≤ 2000000) : Ev (fun k => spec_l15There.f k l k0) (shelfOk l && decide (0 ≤ k0 ∧ k0 < (l.length : Int))) ∧ Ev (fun k => impl_isOn.f k l k0) (shelfOk l && decide (0 ≤ k0 ∧ k0 < (l.length : Int))) := by
 constructor
 ·refine ev_bind (goodShelfS l hl) ?_
  cases hs : shelfOk l with
  | false => exact ev_neg (by simp) (Ev.now _)
  | true =>
   refine ev_pos rfl ?_
   rw [Bool.true_and]
   by_cases h : k0 ≥ 0
   ·refine ev_pos h (ev_eq (Ev.now _) ?_)
    simp [show 0 ≤ k0 from h]
   ·refine ev_neg h (ev_eq (Ev.now _) ?_)
    simp [show ¬ 0 ≤ k0 from h]
 ·refine ev_bind (goodShelfI l hl) ?_
  cases hs : shelfOk l with
  | false => exact ev_neg (by simp) (Ev.now _)
  | true =>
   refine ev_pos rfl ?_
   rw [Bool.true_and, w64 (x := (l.length : Int) - 1) (by omega) (by omega)]
   refine ev_const (PT.inI _ _ _) (ev_eq (Ev.now _) ?_)
   by_cases h : 0 ≤ k0 ∧ k0 < (l.length : Int)
   ·rw [decide_eq_true h, decide_eq_true ⟨h.1, by omega⟩]
   ·rw [decide_eq_false h, decide_eq_false (fun h2 => h ⟨h2.1, by omega⟩)]
end Go.Proofs.Ytmfipefpmjcddaa.PM
end
section
namespace Go.Proofs.Ytmfipefpmjcddaa.PN
open Go.RowKit Go.Proofs.YtmfipefpmjcddaaW.PrintWords Go.Proofs.YtmfipefpmjcddaaW.PrintLast Go.Proofs.YtmfipefpmjcddaaW.PrintMore Go.Proofs.Ytmfipefpmjcddaa.PB Go.Proofs.Ytmfipefpmjcddaa.PD Go.Proofs.Ytmfipefpmjcddaa.PK Go.Proofs.Ytmfipefpmjcddaa.PL Go.Proofs.Ytmfipefpmjcddaa.PT Go.Proofs.Ytmfipefpmjcddaa.PU Go.Proofs.Ytmfipefpmjcddaa.PG Go.Proofs.Ytmfipefpmjcddaa.PQ Go.Proofs.Ytmfipefpmjcddaa.PV Go.Proofs.Ytmfipefpmjcddaa.PZ Go.Proofs.Ytmfipefpmjcddaa.PM Go.Proofs.Ytmfipefpmjcddaa.PA
set_option linter.unusedVariables false
def textOk (s : ByteArray) : Bool := decide (5 ≤ (s.size : Int) ∧ (s.size : Int) ≤ 12)
theorem texts_small (l : List ByteArray) (h : l.all textOk = true) (hl : l.length ≤ 20) : small l = true ∧ total l ≤ 260 := by
 have key : ∀ l : List ByteArray, l.all textOk = true → small l = true ∧ total l ≤ 13 * l.length := by
  intro l
  induction l with
  | nil => intro _; exact ⟨rfl, by simp [total, szL]⟩
  | cons a l ih =>
   intro h
   rw [List.all_cons, Bool.and_eq_true] at h
   have ha := of_decide_eq_true h.1
   obtain ⟨h1, h2⟩ := ih h.2
   simp only [total, szL, List.length_cons] at h2 ⊢
   refine ⟨?_, by omega⟩
   simp only [small, List.all_cons, Bool.and_eq_true, decide_eq_true_eq]
   exact ⟨by omega, h1⟩
 obtain ⟨h1, h2⟩ := key l h
 exact ⟨h1, by omega⟩
def heldM (dg a c : ByteArray) (k0 : Int) (l : List ByteArray) : Bool × Bool := if (dig 115 (rowM l)).toList = dg.toList then ((rdOf ByteArray.empty l k0).toList == (a ++ c).toList, true) else (false, true)
theorem checkSlotI (dg : ByteArray) (k0 : Int) (a b c d : ByteArray) (o : Bool) (l : List ByteArray) (hl : l.length ≤ 2000000) (hac : a.size + c.size ≤ 1000000000) : Ev (fun k => impl_CheckSlot.f k dg k0 a b c d o l) (if (decide (dg.size = 4) && (decide (l.length ≤ 20) && (decide (0 ≤ k0 ∧ k0 < (l.length : Int)) && slotOk a b c d o))) = true ∧ l.all textOk = true then heldM dg a c k0 l else (false, false)) := by
 have hContains : Ev (fun k => slices_ContainsFunc_impl_CheckSlot_1.f k l) (!(l.all textOk)) := by
  obtain ⟨r, hr, e⟩ := idx_any l (fun l i => rdOf ByteArray.empty l i) (fun i h => rdOf_at _ l i h) slices_IndexFunc_impl_CheckSlot_1.l0 (fun _ s => impl_CheckSlot_1.f s) (fun s => !textOk s) (fun k n i => rfl) (fun x _ => ev_of_eq (by unfold impl_CheckSlot_1.f; rw [inI]; rfl)) (by omega)
  have e2 : ∀ l : List ByteArray, (l.any fun s => !textOk s) = !(l.all textOk) := by
   intro l
   induction l with
   | nil => rfl
   | cons x l ih => simp only [List.any_cons, List.all_cons, Bool.not_and, ih]
  rw [← e2, ← e]
  exact ev_bind (f := fun _ t => some (decide (t ≥ 0))) hr (Ev.now _)
 have hin : ∀ {n : Int}, impl_within.f k0 0 (wrap64 ((l.length : Int) - 1)) = some (decide (0 ≤ k0 ∧ k0 < (l.length : Int))) := by
  intro _
  rw [w64 (x := (l.length : Int) - 1) (by omega) (by omega), inI]
  by_cases h : 0 ≤ k0 ∧ k0 < (l.length : Int)
  ·rw [decide_eq_true h, decide_eq_true ⟨h.1, by omega⟩]
  ·rw [decide_eq_false h, decide_eq_false (fun h2 => h ⟨h2.1, by omega⟩)]
 have jI : Ev (fun k => impl_CheckSlot.j0 k dg k0 l true a b c d o) (false, false) :=
  Ev.step (f := fun _ => some (false, false)) (fun k => by simp only [impl_CheckSlot.j0]; rw [if_pos trivial]) (Ev.now _)
 refine ev_const (isDigI dg) ?_
 by_cases h1 : dg.size = 4
 ·refine ev_pos (decide_eq_true h1) (ev_bind (slotI a b c d o) ?_)
  cases h4 : slotOk a b c d o with
  | false =>
   exact ev_eq (ev_neg (by simp) jI) (if_neg (by simp)).symm
  | true =>
   refine ev_pos rfl ?_
   by_cases h2 : l.length ≤ 20
   ·refine ev_neg (by omega) (ev_const (hin (n := 0)) ?_)
    by_cases h3 : 0 ≤ k0 ∧ k0 < (l.length : Int)
    ·rw [decide_eq_true h3]
     refine Ev.step (f := fun k => (slices_ContainsFunc_impl_CheckSlot_1.f k l).bind fun t705 => (if t705 = true then (some (false, false)) else ((impl_ListDigest.f k 115 l).bind fun bt706 => (if bt706.1.toList = dg.toList then (if 0 ≤ k0 then (if k0 < (l.length : Int) then (if a.size + c.size ≤ 9223372036854775807 then (some (((rdOf ByteArray.empty l k0).toList == (a ++ c).toList), true)) else (none)) else (none)) else (none)) else (some (false, true)))))) (fun k => by simp only [impl_CheckSlot.j0]; rw [if_neg (by simp)]) ?_
     refine ev_bind hContains ?_
     cases hall : l.all textOk with
     | false =>
      exact ev_eq (ev_pos rfl (Ev.now _)) (if_neg (by simp)).symm
     | true =>
      refine ev_eq (r := heldM dg a c k0 l) ?_ (if_pos ⟨by simp [h1, h2], rfl⟩).symm
      have hsm := texts_small l hall h2
      have e : listDigestM 115 l = (dig 115 (rowM l), true) := by
       unfold listDigestM digestOfM
       rw [if_pos h2, if_pos hsm.1, if_pos ⟨by decide, by rw [rowM_size]; omega⟩]
      refine ev_neg (by simp) (ev_bind (listDigestI 115 l) ?_)
      rw [e]
      by_cases h5 : (dig 115 (rowM l)).toList = dg.toList
      ·exact ev_pos h5 (ev_pos h3.1 (ev_pos h3.2 (ev_pos (by omega) (ev_eq (Ev.now _) (by unfold heldM; rw [if_pos h5])))))
      ·exact ev_neg h5 (ev_eq (Ev.now _) (by unfold heldM; rw [if_neg h5]))
    ·rw [decide_eq_false h3]
     exact ev_eq jI (if_neg (by simp)).symm
   ·exact ev_eq (ev_pos (by omega) jI) (if_neg (by simp [h2])).symm
 ·exact ev_eq (ev_neg (by simp [h1]) jI) (if_neg (by simp [h1])).symm
def showM (l : List S35) (k0 : Int) : ByteArray × ByteArray × ByteArray × ByteArray × Bool × List ByteArray × Bool :=
 if (shelfOk l && decide (0 ≤ k0 ∧ k0 < (l.length : Int))) = true then ((rd_T35 l k0).f0, (rd_T35 l k0).f1, (rd_T35 l k0).f2, (rd_T35 l k0).f3, (rd_T35 l k0).f4, textsM l, true) else (⟨#[]⟩, ⟨#[]⟩, ⟨#[]⟩, ⟨#[]⟩, false, [], false)
theorem showI (l : List S35) (k0 : Int) (hl : l.length ≤ 2000000) : Ev (fun k => impl_ShowSlot.f k l k0) (showM l k0) := by
 obtain ⟨hS, hI⟩ := there_two l k0 hl
 unfold showM
 cases hb : shelfOk l && decide (0 ≤ k0 ∧ k0 < (l.length : Int)) with
 | true =>
  rw [hb] at hI
  simp only [Bool.and_eq_true, decide_eq_true_eq] at hb
  exact ev_bind hI (ev_pos rfl (ev_pos hb.2.1 (ev_pos hb.2.2 (ev_bind (textsI l hl (shelf_small hb.1)) (Ev.now _)))))
 | false =>
  rw [hb] at hI
  exact ev_bind hI (ev_neg (by simp) (Ev.now _))
def bodyM (l : List S35) (k0 : Int) : ByteArray × Bool × Bool :=
 if (shelfOk l && decide (0 ≤ k0 ∧ k0 < (l.length : Int))) = true then ((rd_T35 l k0).f3, !(rd_T35 l k0).f4, true) else (⟨#[]⟩, false, false)
theorem bodyI (l : List S35) (k0 : Int) (hl : l.length ≤ 2000000) : Ev (fun k => impl_BodyAt.f k l k0) (bodyM l k0) := by
 obtain ⟨hS, hI⟩ := there_two l k0 hl
 unfold bodyM
 cases hb : shelfOk l && decide (0 ≤ k0 ∧ k0 < (l.length : Int)) with
 | true =>
  rw [hb] at hI
  simp only [Bool.and_eq_true, decide_eq_true_eq] at hb
  exact ev_bind hI (ev_pos rfl (ev_pos hb.2.1 (ev_pos hb.2.2 (Ev.now _))))
 | false =>
  rw [hb] at hI
  exact ev_bind hI (ev_neg (by simp) (Ev.now _))
theorem bodyS (l : List S35) (k0 : Int) (hl : l.length ≤ 2000000) : Ev (fun k => spec_BodyAt.f k l k0) (bodyM l k0) := by
 obtain ⟨hI, hS⟩ := there_two l k0 hl
 unfold bodyM
 cases hb : shelfOk l && decide (0 ≤ k0 ∧ k0 < (l.length : Int)) with
 | true =>
  rw [hb] at hI
  simp only [Bool.and_eq_true, decide_eq_true_eq] at hb
  exact ev_bind hI (ev_pos rfl (ev_pos hb.2.1 (ev_pos hb.2.2 (Ev.now _))))
 | false =>
  rw [hb] at hI
  exact ev_bind hI (ev_neg (by simp) (Ev.now _))
theorem text_ok (x : S35) (h : slotB x = true) : textOk (slotT x) = true := by
 have := slotB_facts h
 have e : (slotT x).size = x.f0.size + x.f2.size := app_size _ _
 exact decide_eq_true (by omega)
theorem shown_held (l : List S35) (i : Nat) (hi : i < l.length) (h : shelfOk l = true) : Ev (fun k => impl_CheckSlot.f k (dig 115 (rowM (textsM l))) (i : Int) l[i].f0 l[i].f1 l[i].f2 l[i].f3 l[i].f4 (textsM l)) (true, true) := by
 have hn := shelf_len h
 have hm := shelf_mem h
 have hx := hm _ (List.getElem_mem hi)
 have hf := slotB_facts hx
 have hle : (textsM l).length = l.length := List.length_map _
 refine ev_eq (checkSlotI _ _ _ _ _ _ _ _ (by omega) (by omega)) ?_
 have ha : (textsM l).all textOk = true := by
  rw [List.all_eq_true]
  intro s hs
  obtain ⟨x, hxm, rfl⟩ := List.mem_map.1 hs
  exact text_ok x (hm x hxm)
 have hb : (decide ((dig 115 (rowM (textsM l))).size = 4) && (decide ((textsM l).length ≤ 20) && (decide (0 ≤ (i : Int) ∧ (i : Int) < ((textsM l).length : Int)) && slotOk l[i].f0 l[i].f1 l[i].f2 l[i].f3 l[i].f4))) = true := by
  rw [decide_eq_true (dig_size _ _), decide_eq_true (by omega), decide_eq_true ⟨by omega, by omega⟩, show slotOk l[i].f0 l[i].f1 l[i].f2 l[i].f3 l[i].f4 = true from hx]; rfl
 rw [if_pos ⟨hb, ha⟩]
 unfold heldM
 rw [if_pos rfl]
 have e : rdOf ByteArray.empty (textsM l) (i : Int) = l[i].f0 ++ l[i].f2 := by
  rw [rdOf_at _ _ i (by omega)]; simp [textsM, slotT]
 rw [e]
 simp
end Go.Proofs.Ytmfipefpmjcddaa.PN
end
section
namespace Go.Proofs.Ytmfipefpmjcddaa.PC
open Go.RowKit Go.Proofs.YtmfipefpmjcddaaW.PrintWords Go.Proofs.YtmfipefpmjcddaaW.PrintLast Go.Proofs.YtmfipefpmjcddaaW.PrintMore Go.Proofs.Ytmfipefpmjcddaa.PB Go.Proofs.Ytmfipefpmjcddaa.PL Go.Proofs.Ytmfipefpmjcddaa.PA
set_option linter.unusedVariables false
def Bys (c : List Int) : Prop := ∀ x ∈ c, 0 ≤ x ∧ x ≤ 255
theorem code_of (c : List Int) (h : ∀ x ∈ c, (Lit.int .u8 x).wf = true) : Bys c := by
 intro x hx
 have := h x hx
 simp [Lit.wf] at this
 have e1 : IntKind.u8.min = 0 := rfl
 have e2 : IntKind.u8.max = 255 := rfl
 rw [e1, e2] at this
 omega
theorem code_at {c : List Int} (h : Bys c) (i : Int) : 0 ≤ rd c i ∧ rd c i ≤ 255 := by
 unfold rd
 rw [List.getD_eq_getElem?_getD]
 cases e : c[i.toNat]? with
 | none => simp
 | some x => exact h x (List.mem_of_getElem? e)
theorem wrap_u64 (n : Int) : IntKind.u64.wrap n = n % 18446744073709551616 := by simp [IntKind.wrap, IntKind.bits, IntKind.signed]
theorem and255 (x : Int) (h0 : 0 ≤ x) (h1 : x < 16777216) : 0 ≤ wrap64 (Go.bits .and .u64 x 255) ∧ wrap64 (Go.bits .and .u64 x 255) ≤ 255 := by
 have h := Go.bits_mask .u64 24 (by decide) (fun n a b => by rw [wrap_u64]; omega) 8 (by decide) x h0 (by omega)
 have e : ((2 : Int) ^ 8 - 1) = 255 := by decide
 rw [e] at h
 rw [h, w64 (by omega) (by omega)]
 omega
def Drawn {α : Type} (i : Int) (K : Int) (o : Option (α × Int × Int)) (P : α → Prop) : Prop := ∃ v i' s', o = some (v, i', s') ∧ P v ∧ i ≤ i' ∧ i' ≤ i + K
theorem next_d {c : List Int} (hc : Bys c) (i s : Int) (h0 : 0 ≤ i) (h1 : i ≤ 1000000000000) : Drawn i 1 (spec_l1Cur_next.f c i s) (fun v => 0 ≤ v ∧ v ≤ 255) := by
 have e : wrap64 (i + 1) = i + 1 := w64 (by omega) (by omega)
 have hr := code_at hc i
 have hv : wrap64 (rd c i) = rd c i := w64 (by omega) (by omega)
 unfold spec_l1Cur_next.f
 rw [e]
 by_cases hi : i < (c.length : Int)
 ·rw [if_pos hi, if_pos h0, if_pos (by omega)]
  exact ⟨_, _, _, rfl, by rw [hv]; exact hr, by omega, by omega⟩
 ·rw [if_neg hi, if_neg (by omega)]
  refine ⟨_, _, _, rfl, and255 _ ?_ ?_, by omega, by omega⟩
  ·rw [wrap_u64]; omega
  ·rw [wrap_u64]; omega
theorem pick_d {c : List Int} (hc : Bys c) (i s n : Int) (h0 : 0 ≤ i) (h1 : i ≤ 100000000000) (hn : n ≤ 1000000000) : Drawn i 2 (spec_l1Cur_pick.f c i s n) (fun v => 0 ≤ v ∧ (v < n ∨ v = 0)) := by
 unfold spec_l1Cur_pick.f
 by_cases c1 : n ≤ 1
 ·rw [if_pos c1]
  exact ⟨0, i, s, rfl, ⟨by omega, Or.inr rfl⟩, by omega, by omega⟩
 ·rw [if_neg c1]
  obtain ⟨v, i', s', e, hv, hi1, hi2⟩ := next_d hc i s h0 (by omega)
  rw [e]
  simp only [Option.bind_some]
  by_cases c2 : n > 200
  ·rw [if_pos c2]
   obtain ⟨v2, i2, s2, e2, hv2, hi3, hi4⟩ := next_d hc i' s' (by omega) (by omega)
   rw [e2]
   simp only [Option.bind_some]
   rw [if_neg (by omega), w64 (x := v * 256) (by omega) (by omega), w64 (x := v * 256 + v2) (by omega) (by omega), Int.tmod_eq_emod_of_nonneg (by omega)]
   exact ⟨_, _, _, rfl, ⟨Int.emod_nonneg _ (by omega), Or.inl (Int.emod_lt_of_pos _ (by omega))⟩, by omega, by omega⟩
  ·rw [if_neg c2, if_neg (by omega), Int.tmod_eq_emod_of_nonneg (by omega)]
   exact ⟨_, _, _, rfl, ⟨Int.emod_nonneg _ (by omega), Or.inl (Int.emod_lt_of_pos _ (by omega))⟩, by omega, by omega⟩
theorem of_d {c : List Int} (hc : Bys c) (i s : Int) (l : List ByteArray) (h0 : 0 ≤ i) (h1 : i ≤ 100000000000) (hl : 1 ≤ l.length ∧ l.length ≤ 1000000000) : Drawn i 2 (spec_l1Cur_of.f c i s l) (fun v => v ∈ l) := by
 obtain ⟨v, i', s', e, hv, hi1, hi2⟩ := pick_d hc i s (l.length : Int) h0 h1 (by omega)
 unfold spec_l1Cur_of.f
 rw [e]
 simp only [Option.bind_some]
 rw [if_pos hv.1, if_pos (by omega)]
 refine ⟨_, _, _, rfl, ?_, hi1, hi2⟩
 obtain ⟨n, rfl⟩ := Int.eq_ofNat_of_zero_le hv.1
 have hn : n < l.length := by omega
 rw [rdOf_at _ _ _ hn]
 exact List.getElem_mem hn
theorem one_d {c : List Int} (hc : Bys c) (i s n : Int) (h0 : 0 ≤ i) (h1 : i ≤ 100000000000) (hn : n ≤ 1000000000) : Drawn i 2 (spec_l1Cur_one.f c i s n) (fun _ => True) := by
 obtain ⟨v, i', s', e, hv, hi1, hi2⟩ := pick_d hc i s n h0 h1 hn
 unfold spec_l1Cur_one.f
 rw [e]
 exact ⟨_, _, _, rfl, trivial, hi1, hi2⟩
def DrawnE {α : Type} (i : Int) (K : Int) (f : Nat → Option (α × Int × Int)) (P : α → Prop) : Prop := ∃ v i' s', Ev f (v, i', s') ∧ P v ∧ i ≤ i' ∧ i' ≤ i + K
end Go.Proofs.Ytmfipefpmjcddaa.PC
end
section
namespace Go.Proofs.Ytmfipefpmjcddaa.PF
open Go.RowKit Go.Proofs.YtmfipefpmjcddaaW.PrintWords Go.Proofs.YtmfipefpmjcddaaW.PrintLast Go.Proofs.YtmfipefpmjcddaaW.PrintMore Go.Proofs.Ytmfipefpmjcddaa.PB Go.Proofs.Ytmfipefpmjcddaa.PL Go.Proofs.Ytmfipefpmjcddaa.PQ Go.Proofs.Ytmfipefpmjcddaa.PV Go.Proofs.Ytmfipefpmjcddaa.PZ Go.Proofs.Ytmfipefpmjcddaa.PM Go.Proofs.Ytmfipefpmjcddaa.PN Go.Proofs.Ytmfipefpmjcddaa.PC Go.Proofs.Ytmfipefpmjcddaa.PA
set_option linter.unusedVariables false
def outX (x : S35) : S35 := ⟨x.f0, ⟨#[]⟩, x.f2, ⟨#[]⟩, true⟩
def takeOutM (l : List S35) (k0 : Int) : List S35 × Bool :=
 if (shelfOk l && decide (0 ≤ k0 ∧ k0 < (l.length : Int))) = true then (if (rd_T35 l k0).f4 = true then ([], false) else (l.set k0.toNat (outX (rd_T35 l k0)), true)) else ([], false)
theorem takeOutS (l : List S35) (k0 : Int) (hl : l.length ≤ 2000000) : Ev (fun k => spec_TakeOut.f k l k0) (takeOutM l k0) := by
 obtain ⟨hS, hI⟩ := there_two l k0 hl
 unfold takeOutM
 cases hb : shelfOk l && decide (0 ≤ k0 ∧ k0 < (l.length : Int)) with
 | true =>
  rw [hb] at hS
  simp only [Bool.and_eq_true, decide_eq_true_eq] at hb
  cases ho : (rd_T35 l k0).f4 with
  | true => exact ev_bind hS (ev_pos rfl (ev_pos hb.2.1 (ev_pos hb.2.2 (ev_pos ho (Ev.now _)))))
  | false =>
   have hno : ¬ (rd_T35 l k0).f4 = true := by rw [ho]; simp
   exact ev_bind hS (ev_pos rfl (ev_pos hb.2.1 (ev_pos hb.2.2 (ev_neg hno (ev_const (a := []) rfl (ev_pos (by simp only [List.length_nil]; omega) (ev_const (a := l) rfl (ev_pos hb.2.2 (Ev.now _)))))))))
 | false =>
  rw [hb] at hS
  exact ev_bind hS (ev_neg (by simp) (Ev.now _))
theorem takeOutI (l : List S35) (k0 : Int) (hl : l.length ≤ 2000000) : Ev (fun k => impl_TakeOut.f k l k0) (takeOutM l k0) := by
 obtain ⟨hS, hI⟩ := there_two l k0 hl
 unfold takeOutM
 cases hb : shelfOk l && decide (0 ≤ k0 ∧ k0 < (l.length : Int)) with
 | true =>
  rw [hb] at hI
  simp only [Bool.and_eq_true, decide_eq_true_eq] at hb
  cases ho : (rd_T35 l k0).f4 with
  | true => exact ev_bind hI (ev_pos rfl (ev_pos hb.2.1 (ev_pos hb.2.2 (ev_pos ho (Ev.now _)))))
  | false =>
   have hno : ¬ (rd_T35 l k0).f4 = true := by rw [ho]; simp
   refine ev_bind hI (ev_pos rfl (ev_pos hb.2.1 (ev_pos hb.2.2 (ev_neg hno (ev_const (a := l) ?_ (ev_pos hb.2.2 (Ev.now _)))))))
   unfold impl_Slot_66.f
   simp only [Option.bind_some]
   rw [if_pos (by simp only [List.length_nil]; omega)]
   rfl
 | false =>
  rw [hb] at hI
  exact ev_bind hI (ev_neg (by simp) (Ev.now _))
def Shelf (l : List S35) : Prop := l.length ≤ 20 ∧ ∀ x ∈ l, x.f3.size ≤ 1000
theorem shelf_nil : Shelf [] := ⟨by simp, fun x hx => by cases hx⟩
theorem takeOut_shelf {l : List S35} (h : Shelf l) (k0 : Int) : Shelf (takeOutM l k0).1 := by
 unfold takeOutM
 split
 ·split
  ·exact shelf_nil
  ·refine ⟨by show (List.set _ _ _).length ≤ 20; rw [List.length_set]; exact h.1, fun x hx => ?_⟩
   rcases List.mem_or_eq_of_mem_set hx with hx | rfl
   ·exact h.2 x hx
   ·show (⟨#[]⟩ : ByteArray).size ≤ 1000; decide
 ·exact shelf_nil
theorem putS (l : List S35) (a b c : ByteArray) (hl : Shelf l) (hc : c.size ≤ 1000) : ∃ t f, Ev (fun k => spec_PutSlot.f k l a b c) (t, f) ∧ Shelf t := by
 have hn := hl.1
 have hS := goodShelfS l (by omega)
 cases h1 : shelfOk l with
 | false =>
  rw [h1] at hS
  exact ⟨[], false, ev_bind hS (ev_neg (by simp) (Ev.now _)), shelf_nil⟩
 | true =>
  rw [h1] at hS
  cases h2 : threeOk a b c with
  | false => exact ⟨[], false, ev_bind hS (ev_pos rfl (ev_const (goodS a b c) (ev_neg (by simp [h2]) (Ev.now _)))), shelf_nil⟩
  | true =>
   by_cases h3 : (l.length : Int) = 20
   ·exact ⟨[], false, ev_bind hS (ev_pos rfl (ev_const (goodS a b c) (ev_pos h2 (ev_pos h3 (Ev.now _))))), shelf_nil⟩
   ·refine ⟨l ++ [⟨a, b, commitM a b c, c, false⟩], true, ev_bind hS (ev_pos rfl (ev_const (goodS a b c) (ev_pos h2 (ev_neg h3 (ev_bind (commitS a b c h2) (ev_const (a := []) rfl (ev_pos (by simp only [List.length_nil]; omega) (ev_const (a := l) rfl (ev_const rfl (ev_pos (by simp only [List.length_cons, List.length_nil]; omega) (Ev.now _))))))))))), by rw [List.length_append]; simp only [List.length_cons, List.length_nil]; omega, fun x hx => ?_⟩
    rcases List.mem_append.1 hx with h | h
    ·exact hl.2 x h
    ·rw [List.mem_singleton.1 h]; exact hc
theorem slotName_d {c : List Int} (hc : Bys c) (i s : Int) (h0 : 0 ≤ i) (h1 : i ≤ 100000000000) : Drawn i 2 (spec_l1Cur_slotName.f c i s) (fun t => t.size ≤ 1000) := by
 obtain ⟨v, i', s', e, hv, hi1, hi2⟩ := of_d hc i s [⟨#[111, 110, 101]⟩, ⟨#[116, 119, 111]⟩, ⟨#[116, 104, 114, 101, 101]⟩, ⟨#[120]⟩, ⟨#[]⟩, ⟨#[110, 105, 110, 101, 32, 98, 121, 116, 101]⟩] h0 h1 (by decide)
 have hz : v.size ≤ 1000 := by
  simp only [List.mem_cons, List.not_mem_nil, or_false] at hv
  rcases hv with rfl | rfl | rfl | rfl | rfl | rfl <;> decide
 unfold spec_l1Cur_slotName.f
 rw [e]
 exact ⟨_, _, _, rfl, hz, hi1, hi2⟩
theorem shelf_d {c : List Int} (hc : Bys c) (i s : Int) (h0 : 0 ≤ i) (h1 : i ≤ 10000000000) : DrawnE i 2000 (fun k => spec_l1Cur_shelf.f k c i s) (fun l => l.length ≤ 20) := by
 have loop : ∀ (d : Nat) (l : List S35) (i s : Int), Shelf l → 0 ≤ i → i + 20 * (d : Int) ≤ 20000000000 → ∃ l' i' s', Ev (fun k => spec_l1Cur_shelf.l0 k l (d : Int) c i s) (l', i', s') ∧ l'.length ≤ 20 ∧ i ≤ i' ∧ i' ≤ i + 20 * (d : Int) + 10 := by
  intro d
  induction d with
  | zero =>
   intro l i s hl h0 h1
   have hn := hl.1
   by_cases c1 : (l.length : Int) > 0
   ·obtain ⟨b, i2, s2, e2, _, h2, h3⟩ := one_d hc i s 20 h0 (by omega) (by omega)
    have st : ∀ {r}, Ev (fun k => if b = true then (if 0 < (l.length : Int) then (if ((rd_T35 l 0).f3).size + 1 ≤ 9223372036854775807 then (some ((l.set (0 : Int).toNat (⟨(rd_T35 l 0).f0, (rd_T35 l 0).f1, (rd_T35 l 0).f2, ((rd_T35 l 0).f3) ++ (⟨#[33]⟩ : ByteArray), (rd_T35 l 0).f4⟩ : S35)), i2, s2)) else (none)) else (none)) else (some (l, i2, s2))) r → Ev (fun k => spec_l1Cur_shelf.l0 k l ((0 : Nat) : Int) c i s) r := fun h => Ev.step (fun k => by simp only [spec_l1Cur_shelf.l0]; rw [if_neg (by omega), if_pos c1, e2]; rfl) h
    cases b with
    | true =>
     have hz : ((rd_T35 l 0).f3).size ≤ 1000 := by
      have hp : 0 < l.length := by omega
      have e := PV.rdI_at l 0 hp
      rw [show ((0 : Nat) : Int) = 0 from rfl] at e
      rw [e]
      exact hl.2 _ (List.getElem_mem hp)
     exact ⟨_, i2, s2, st (ev_pos rfl (ev_pos (by omega) (ev_pos (by omega) (Ev.now _)))), by rw [List.length_set]; exact hn, by omega, by omega⟩
    | false => exact ⟨l, i2, s2, st (ev_neg (by simp) (Ev.now _)), hn, by omega, by omega⟩
   ·exact ⟨l, i, s, Ev.step (f := fun _ => some (l, i, s)) (fun k => by simp only [spec_l1Cur_shelf.l0]; rw [if_neg (by omega), if_neg c1]) (Ev.now _), hn, by omega, by omega⟩
  | succ d ih =>
   intro l i s hl h0 h1
   have wd : wrap64 (((d + 1 : Nat) : Int) - 1) = (d : Int) := by rw [w64 (by omega) (by omega)]; omega
   have j2 : ∀ (m : List S35) (i s : Int), Shelf m → 0 ≤ i → i + 20 * (d : Int) + 10 ≤ 20000000000 → ∃ l' i' s', Ev (fun k => spec_l1Cur_shelf.j2 k m ((d + 1 : Nat) : Int) c i s) (l', i', s') ∧ l'.length ≤ 20 ∧ i ≤ i' ∧ i' ≤ i + 20 * (d : Int) + 20 - 6 := by
    intro m i s hm h0 h1
    have hn := hm.1
    obtain ⟨n, i2, s2, e2, _, h2, h3⟩ := pick_d hc i s 3 h0 (by omega) (by omega)
    have ht := takeOutS m n (by omega)
    have hsh := takeOut_shelf hm n
    obtain ⟨l1, i5, s5, r1, z1, z2, z3⟩ := ih m i2 s2 hm (by omega) (by omega)
    obtain ⟨b, i3, s3, e3, _, h4, h5⟩ := one_d hc i2 s2 3 (by omega) (by omega) (by omega)
    obtain ⟨l3, i7, s7, r3, x1, x2, x3⟩ := ih m i3 s3 hm (by omega) (by omega)
    obtain ⟨l2, i6, s6, r2, y1, y2, y3⟩ := ih (takeOutM m n).1 i3 s3 hsh (by omega) (by omega)
    have st : ∀ {r}, Ev (fun k => (spec_TakeOut.f k m n).bind fun t => (if t.2 = true then (if b = true then (spec_l1Cur_shelf.l0 k t.1 (d : Int) c i3 s3) else (spec_l1Cur_shelf.l0 k m (d : Int) c i3 s3)) else (spec_l1Cur_shelf.l0 k m (d : Int) c i2 s2))) r → Ev (fun k => spec_l1Cur_shelf.j2 k m ((d + 1 : Nat) : Int) c i s) r := fun h => Ev.step (fun k => by
     simp only [spec_l1Cur_shelf.j2]
     rw [e2, wd]
     simp only [Option.bind_some]
     rw [e3]
     rfl) h
    cases ho : (takeOutM m n).2 with
    | false => exact ⟨l1, i5, s5, st (ev_bind ht (ev_neg (by simp [ho]) r1)), z1, by omega, by omega⟩
    | true =>
     cases b with
     | true => exact ⟨l2, i6, s6, st (ev_bind ht (ev_pos ho (ev_pos rfl r2))), y1, by omega, by omega⟩
     | false => exact ⟨l3, i7, s7, st (ev_bind ht (ev_pos ho (ev_neg (by simp) r3))), x1, by omega, by omega⟩
   obtain ⟨v, i2, s2, e2, hv, h2, h3⟩ := slotName_d hc i s h0 (by omega)
   obtain ⟨u, i3, s3, e3, hu, h4, h5⟩ := of_d hc i2 s2 [⟨#[115, 49]⟩, ⟨#[115, 50]⟩] (by omega) (by omega) (by decide)
   obtain ⟨t, i4, s4, e4, ht, h6, h7⟩ := of_d hc i3 s3 [⟨#[]⟩, ⟨#[98, 111, 100, 121]⟩, ⟨#[97, 110, 111, 116, 104, 101, 114, 32, 98, 111, 100, 121, 32, 111, 102, 32, 98, 121, 116, 101, 115]⟩, ⟨#[97, 99, 97]⟩, ⟨#[98, 97, 98]⟩] (by omega) (by omega) (by decide)
   have hz : t.size ≤ 1000 := by
    simp only [List.mem_cons, List.not_mem_nil, or_false] at ht
    rcases ht with rfl | rfl | rfl | rfl | rfl <;> decide
   obtain ⟨p, f, hp, hsh⟩ := putS l v u t hl hz
   obtain ⟨l1, i5, s5, r1, z1, z2, z3⟩ := j2 p i4 s4 hsh (by omega) (by omega)
   obtain ⟨l2, i6, s6, r2, y1, y2, y3⟩ := j2 l i4 s4 hl (by omega) (by omega)
   have st : ∀ {r}, Ev (fun k => (spec_PutSlot.f k l v u t).bind fun q => (if q.2 = true then (spec_l1Cur_shelf.j2 k q.1 ((d + 1 : Nat) : Int) c i4 s4) else (spec_l1Cur_shelf.j2 k l ((d + 1 : Nat) : Int) c i4 s4))) r → Ev (fun k => spec_l1Cur_shelf.l0 k l ((d + 1 : Nat) : Int) c i s) r := fun h => Ev.step (fun k => by
    simp only [spec_l1Cur_shelf.l0]
    rw [if_pos (by omega), e2]
    simp only [Option.bind_some, e3, e4]) h
   cases f with
   | true => exact ⟨l1, i5, s5, st (ev_bind hp (ev_pos rfl r1)), z1, by omega, by omega⟩
   | false => exact ⟨l2, i6, s6, st (ev_bind hp (ev_neg (by simp) r2)), y1, by omega, by omega⟩
 obtain ⟨n, i2, s2, e2, hn, h2, h3⟩ := pick_d hc i s 7 h0 (by omega) (by omega)
 obtain ⟨b, i3, s3, e3, _, h4, h5⟩ := one_d hc i2 s2 20 (by omega) (by omega) (by omega)
 cases b with
 | true =>
  obtain ⟨l1, i5, s5, r1, z1, z2, z3⟩ := loop 30 [] i3 s3 shelf_nil (by omega) (by omega)
  refine ⟨l1, i5, s5, ev_const e2 (ev_const e3 (ev_pos rfl (Ev.step (f := fun k => spec_l1Cur_shelf.l0 k [] 30 c i3 s3) (fun k => by simp only [spec_l1Cur_shelf.j0]) r1))), z1, by omega, by omega⟩
 | false =>
  obtain ⟨m, rfl⟩ := Int.eq_ofNat_of_zero_le hn.1
  obtain ⟨l1, i5, s5, r1, z1, z2, z3⟩ := loop m [] i3 s3 shelf_nil (by omega) (by omega)
  refine ⟨l1, i5, s5, ev_const e2 (ev_const e3 (ev_neg (by simp) (Ev.step (f := fun k => spec_l1Cur_shelf.l0 k [] ((m : Nat) : Int) c i3 s3) (fun k => by simp only [spec_l1Cur_shelf.j0]) r1))), z1, by omega, by omega⟩
theorem drawTakeOut {c : List Int} (hc : Bys c) : ∃ l k0, Ev (fun k => spec_DrawTakeOut.f k c) (l, k0) ∧ l.length ≤ 20 := by
 obtain ⟨l, i, s, hl, hz, h1, h2⟩ := shelf_d hc 0 0 (by omega) (by omega)
 have hz' : l.length ≤ 20 := hz
 obtain ⟨n, i2, s2, e2, hn, h3, h4⟩ := pick_d hc i s ((l.length : Int) + 2) (by omega) (by omega) (by omega)
 refine ⟨l, wrap64 (n - 1), ev_bind hl ?_, hz'⟩
 rw [w64 (x := (l.length : Int) + 2) (by omega) (by omega)]
 exact ev_const e2 (Ev.now _)
end Go.Proofs.Ytmfipefpmjcddaa.PF
end
section
namespace Go.Proofs.Ytmfipefpmjcddaa.Pure
open Go.RowKit Go.Proofs.YtmfipefpmjcddaaW.PrintWords Go.Proofs.YtmfipefpmjcddaaW.PrintLast Go.Proofs.YtmfipefpmjcddaaW.PrintMore Go.Proofs.Ytmfipefpmjcddaa.PB Go.Proofs.Ytmfipefpmjcddaa.PD Go.Proofs.Ytmfipefpmjcddaa.PL Go.Proofs.Ytmfipefpmjcddaa.PQ Go.Proofs.Ytmfipefpmjcddaa.PV Go.Proofs.Ytmfipefpmjcddaa.PZ Go.Proofs.Ytmfipefpmjcddaa.PM Go.Proofs.Ytmfipefpmjcddaa.PN Go.Proofs.Ytmfipefpmjcddaa.PC Go.Proofs.Ytmfipefpmjcddaa.PF Go.Proofs.Ytmfipefpmjcddaa.PA
set_option linter.unusedVariables false
theorem sameSlots_yes (l : List S35) (hl : l.length ≤ 2000000) : Ev (fun k => laws_sameSlots.f k l l) true := by
 have key : ∀ (d i : Nat), i + d = l.length → Ev (fun k => laws_sameSlots.l0 k l l (l.length : Int) (i : Int)) true := by
  intro d
  induction d with
  | zero =>
   intro i hi
   exact Ev.step (f := fun _ => some true) (fun k => by simp only [laws_sameSlots.l0]; rw [if_neg (by omega)]) (Ev.now _)
  | succ d ih =>
   intro i hi
   refine Ev.step (f := fun k => laws_sameSlots.l0 k l l (l.length : Int) ((i + 1 : Nat) : Int)) (fun k => ?_) (ih (i + 1) (by omega))
   simp only [laws_sameSlots.l0]
   rw [if_pos (by omega), if_pos (by omega), if_pos (by omega), if_pos (by omega), if_neg (by simp), w64 (x := (i : Int) + 1) (by omega) (by omega)]
   rfl
 exact ev_pos rfl (key l.length 0 (by omega))
theorem emptyT : (⟨#[]⟩ : ByteArray).toList = ([] : List UInt8) := by rw [ByteArray.toList_eq]
theorem slotB_out (x : S35) (h : slotB x = true) (ho : x.f4 = false) : slotB (outX x) = true := by
 have hf := slotB_facts h
 unfold slotB slotOk outX
 rw [if_pos rfl]
 have e1 : nameOk x.f0 = true := decide_eq_true ⟨by omega, by omega⟩
 have e2 : emptyB ⟨#[]⟩ = true := by unfold emptyB; rw [emptyT]; rfl
 rw [e1, decide_eq_true hf.2.2]
 dsimp only
 rw [e2]
 rfl
theorem taken_ok {l : List S35} (h : shelfOk l = true) (n : Nat) (hn : n < l.length) (ho : (l[n]).f4 = false) : shelfOk (l.set n (outX l[n])) = true := by
 unfold shelfOk
 have hl := shelf_len h
 have hm := shelf_mem h
 rw [List.length_set, decide_eq_true (by omega), Bool.true_and, List.all_eq_true]
 intro x hx
 rcases List.mem_or_eq_of_mem_set hx with hx | rfl
 ·exact hm x hx
 ·exact slotB_out _ (hm _ (List.getElem_mem hn)) ho
theorem taken_texts (l : List S35) (n : Nat) (hn : n < l.length) : textsM (l.set n (outX l[n])) = textsM l := by
 unfold textsM
 rw [List.map_set]
 apply List.ext_getElem
 ·rw [List.length_set]
 ·intro i h1 h2
  rw [List.getElem_set]
  by_cases e : n = i
  ·subst e; rw [if_pos rfl]; simp [outX, slotT]
  ·rw [if_neg e]
theorem FnTaken : laws_FnTaken.Pure := by
 intro l0 l1 hl0 hm0 hc0 hl1 hm1 hc1
 refine Ev.rounds ?_
 unfold laws_FnTaken.f
 by_cases hsz : wrap64 ((l0.length : Int) + (l1.length : Int)) > 1048576
 ·exact ev_pos hsz (Ev.now _)
 refine ev_neg hsz ?_
 clear hsz
 have c0 := code_of l0 hc0
 have c1 := code_of l1 hc1
 obtain ⟨l, k0, hd, hl⟩ := drawTakeOut c0
 obtain ⟨m, q, hd2, hm⟩ := drawTakeOut c1
 have hd2' : Ev (fun k => spec_DrawBodyAt.f k l1) (m, q) := ev_bind hd2 (Ev.now _)
 have fin : Ev (fun k => (spec_DrawBodyAt.f k l1).bind fun b => ((impl_BodyAt.f k b.1 b.2).bind fun x => ((spec_BodyAt.f k b.1 b.2).bind fun y => (if (x.2.2 == y.2.2) = true then (if (x.2.1 == y.2.1) = true then (some (x.1.toList == y.1.toList)) else (some false)) else (some false))))) true :=
  ev_bind hd2' (ev_bind (bodyI m q (by omega)) (ev_bind (bodyS m q (by omega)) (ev_pos (by simp) (ev_pos (by simp) (ev_eq (Ev.now _) (by simp))))))
 have hI := takeOutI l k0 (by omega)
 have hS := takeOutS l k0 (by omega)
 have hlen : (takeOutM l k0).1.length ≤ 2000000 := by
  unfold takeOutM
  split
  ·split
   ·simp
   ·show (List.set _ _ _).length ≤ _; rw [List.length_set]; omega
  ·simp
 refine ev_bind hd (ev_bind hI (ev_bind hS (ev_neg (by simp) (ev_bind (sameSlots_yes _ hlen) (ev_pos rfl (ev_bind (goodShelfI l (by omega)) (ev_bind (goodShelfS l (by omega)) ?_)))))))
 simp only [bne_self_eq_false]
 refine Ev.step (f := fun k => _) (fun k => by simp only [laws_FnTaken.j0]; rfl) ?_
 refine ev_neg (by simp) ?_
 cases hok : (takeOutM l k0).2 with
 | false => exact ev_neg (by simp) fin
 | true =>
  refine ev_pos rfl ?_
  have hb : (shelfOk l && decide (0 ≤ k0 ∧ k0 < (l.length : Int))) = true := by
   unfold takeOutM at hok
   cases hb : shelfOk l && decide (0 ≤ k0 ∧ k0 < (l.length : Int)) with
   | true => rfl
   | false => rw [hb] at hok; cases hok
  have hno : ¬ (rd_T35 l k0).f4 = true := by
   intro h
   unfold takeOutM at hok
   rw [if_pos hb, if_pos h] at hok
   cases hok
  have er : takeOutM l k0 = (l.set k0.toNat (outX (rd_T35 l k0)), true) := by unfold takeOutM; rw [if_pos hb, if_neg hno]
  simp only [Bool.and_eq_true, decide_eq_true_eq] at hb
  obtain ⟨hg, h0, h1⟩ := hb
  obtain ⟨n, rfl⟩ := Int.eq_ofNat_of_zero_le h0
  have hn : n < l.length := by omega
  have eat : rd_T35 l (n : Int) = l[n] := PV.rdI_at l n hn
  rw [eat] at hno er
  have ho : l[n].f4 = false := by simpa using hno
  rw [Int.toNat_natCast] at er
  rw [er]
  have hgx := taken_ok hg n hn ho
  have htx := taken_texts l n hn
  have hxl : (l.set n (outX l[n])).length = l.length := List.length_set
  have dl := shelfDigestI l (by omega)
  have dx := shelfDigestI (l.set n (outX l[n])) (by omega)
  have e1 : shelfDigestM l = (dig 115 (rowM (textsM l)), true) := by unfold shelfDigestM; rw [if_pos hg]
  have e2 : shelfDigestM (l.set n (outX l[n])) = (dig 115 (rowM (textsM l)), true) := by unfold shelfDigestM; rw [if_pos hgx, htx]
  rw [e1] at dl
  rw [e2] at dx
  have bx := bodyI (l.set n (outX l[n])) (n : Int) (by omega)
  have e3 : bodyM (l.set n (outX l[n])) (n : Int) = (⟨#[]⟩, false, true) := by
   unfold bodyM
   rw [if_pos (by rw [hgx, decide_eq_true ⟨by omega, by omega⟩]; rfl), PV.rdI_at _ n (by omega), List.getElem_set_self]
   rfl
  rw [e3] at bx
  have gx := goodShelfI (l.set n (outX l[n])) (by omega)
  rw [hgx] at gx
  refine ev_bind dl (ev_bind dx (ev_bind bx (ev_bind gx (ev_pos rfl (ev_pos rfl (ev_pos rfl (ev_pos rfl (ev_pos rfl (ev_neg (by simp) ?_)))))))))
  have hem : ((⟨#[]⟩ : ByteArray).toList != ([] : List UInt8)) = false := by rw [emptyT]; rfl
  dsimp only
  rw [hem]
  refine Ev.step (f := fun k => laws_FnTaken.l0 k l1 l (n : Int) (l.set n (outX l[n])) (dig 115 (rowM (textsM l))) (l.length : Int) ((0 : Nat) : Int)) (fun k => by simp only [laws_FnTaken.j1]; rw [if_neg (by simp)]; rfl) ?_
  have key : ∀ (d i : Nat), i + d = l.length → Ev (fun k => laws_FnTaken.l0 k l1 l (n : Int) (l.set n (outX l[n])) (dig 115 (rowM (textsM l))) (l.length : Int) (i : Int)) true := by
   intro d
   induction d with
   | zero =>
    intro i hi
    refine Ev.step (f := fun k => _) (fun k => by simp only [laws_FnTaken.l0]; rw [if_neg (by omega)]) ?_
    exact fin
   | succ d ih =>
    intro i hi
    have hlt : i < l.length := by omega
    have ei : rd_T35 l (i : Int) = l[i] := PV.rdI_at l i hlt
    have hsh := showI l (i : Int) (by omega)
    have e4 : showM l (i : Int) = (l[i].f0, l[i].f1, l[i].f2, l[i].f3, l[i].f4, textsM l, true) := by
     unfold showM
     rw [if_pos (by rw [hg, decide_eq_true ⟨by omega, by omega⟩]; rfl), ei]
    rw [e4] at hsh
    have hck := shown_held l i hlt hg
    have b1 := bodyI (l.set n (outX l[n])) (i : Int) (by omega)
    have b2 := bodyI l (i : Int) (by omega)
    have e5 : bodyM l (i : Int) = (l[i].f3, !l[i].f4, true) := by
     unfold bodyM
     rw [if_pos (by rw [hg, decide_eq_true ⟨by omega, by omega⟩]; rfl), ei]
    have e6 : bodyM (l.set n (outX l[n])) (i : Int) = (((l.set n (outX l[n]))[i]'(by omega)).f3, !((l.set n (outX l[n]))[i]'(by omega)).f4, true) := by
     unfold bodyM
     rw [if_pos (by rw [hgx, decide_eq_true ⟨by omega, by omega⟩]; rfl), PV.rdI_at _ i (by omega)]
    rw [e5] at b2
    rw [e6] at b1
    have nx := ih (i + 1) (by omega)
    refine Ev.step (f := fun k => _) (fun k => by simp only [laws_FnTaken.l0]; rw [if_pos (by omega), w64 (x := (i : Int) + 1) (by omega) (by omega)]) ?_
    refine ev_bind hsh (ev_bind hck (ev_bind b1 (ev_bind b2 (ev_pos rfl (ev_pos rfl (ev_pos rfl (ev_pos rfl (ev_pos rfl ?_))))))))
    by_cases e : (i : Int) = (n : Int)
    ·exact ev_pos e nx
    ·have hne : ¬ n = i := by omega
     refine ev_neg e ?_
     have e7 : (l.set n (outX l[n]))[i]'(by omega) = l[i] := by rw [List.getElem_set]; exact if_neg hne
     rw [e7]
     exact ev_pos rfl (ev_neg (by simp) nx)
  exact key l.length 0 (by omega)
end Go.Proofs.Ytmfipefpmjcddaa.Pure
end
