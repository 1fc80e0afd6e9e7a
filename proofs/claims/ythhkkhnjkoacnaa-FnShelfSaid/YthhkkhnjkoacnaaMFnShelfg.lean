/- For the law FnShelf (laid by merge.py). -/
import Derived.Test.YthhkkhnjkoacnaaMFnShelff
import Derived.Laws.BitsLemmas
section
namespace Go.Proofs.Ythhkkhnjkoacnaa.PA
open Go.RowKit Go.Proofs.YthhkkhnjkoacnaaW.PrintWords Go.Proofs.YthhkkhnjkoacnaaW.PrintLast Go.Proofs.YthhkkhnjkoacnaaW.PrintMore
attribute [local go_sem] max2_int min2_int max_two min_two max_three min_three max_four min_four
set_option linter.unusedVariables false
set_option linter.unusedSimpArgs false
set_option maxHeartbeats 60000000
set_option maxRecDepth 100000
attribute [local go_sem high] eqA40
mutual
def laws_FnShelf.j0 : Nat → List Int → Int → List ByteArray → Bool → ByteArray → Bool → Bool → ByteArray → ByteArray → ByteArray → ByteArray → Bool → Option (Bool)
 | 0, _, _, _, _, _, _, _, _, _, _, _, _ => none
 | k + 1, x1, x6, x8, x9, x13, x14, x10, x11, x12, x15, x16, x17 => if x10 = true then (some false) else (if x9 = true then ((impl_CheckSlot.f k x13 x6 x11 x12 x15 x16 x17 x8).bind fun bt18 => (if x14 = true then (if bt18.2 = true then (if bt18.1 = true then (laws_FnShelf.j1 k x1) else (some false)) else (some false)) else (some false))) else (laws_FnShelf.j1 k x1))
def laws_FnShelf.j1 : Nat → List Int → Option (Bool)
 | 0, _ => none
 | k + 1, x1 => (spec_DrawCheckSlot.f k x1).bind fun bt19 => ((impl_CheckSlot.f k bt19.1 bt19.2.1 bt19.2.2.1 bt19.2.2.2.1 bt19.2.2.2.2.1 bt19.2.2.2.2.2.1 bt19.2.2.2.2.2.2.1 bt19.2.2.2.2.2.2.2).bind fun bt20 => ((spec_CheckSlot.f k bt19.1 bt19.2.1 bt19.2.2.1 bt19.2.2.2.1 bt19.2.2.2.2.1 bt19.2.2.2.2.2.1 bt19.2.2.2.2.2.2.1 bt19.2.2.2.2.2.2.2).bind fun bt21 => ((spec_DrawPutSlot.f k x1).bind fun bt22 => ((impl_PutSlot.f k bt22.1 bt22.2.1 bt22.2.2.1 bt22.2.2.2).bind fun bt23 => ((spec_PutSlot.f k bt22.1 bt22.2.1 bt22.2.2.1 bt22.2.2.2).bind fun bt24 => ((spec_DrawCommitOf.f x1).bind fun bt25 => ((impl_CommitOf.f k bt25.1 bt25.2.1 bt25.2.2).bind fun bt26 => ((spec_CommitOf.f k bt25.1 bt25.2.1 bt25.2.2).bind fun bt33 => (if (bt20.2 != bt21.2) = true then (laws_FnShelf.j2 k bt22.1 bt22.2.1 bt22.2.2.1 bt22.2.2.2 bt23.1 bt23.2 true) else (if (bt20.1 != bt21.1) = true then (laws_FnShelf.j2 k bt22.1 bt22.2.1 bt22.2.2.1 bt22.2.2.2 bt23.1 bt23.2 true) else (if (bt23.2 != bt24.2) = true then (laws_FnShelf.j2 k bt22.1 bt22.2.1 bt22.2.2.1 bt22.2.2.2 bt23.1 bt23.2 true) else ((laws_sameSlots.f k bt23.1 bt24.1).bind fun t34 => (if t34 = true then (if (bt26.2 != bt33.2) = true then (laws_FnShelf.j2 k bt22.1 bt22.2.1 bt22.2.2.1 bt22.2.2.2 bt23.1 bt23.2 true) else (laws_FnShelf.j2 k bt22.1 bt22.2.1 bt22.2.2.1 bt22.2.2.2 bt23.1 bt23.2 (bt26.1.toList != bt33.1.toList))) else (laws_FnShelf.j2 k bt22.1 bt22.2.1 bt22.2.2.1 bt22.2.2.2 bt23.1 bt23.2 true))))))))))))))
def laws_FnShelf.j2 : Nat → List (S40) → ByteArray → ByteArray → ByteArray → List (S40) → Bool → Bool → Option (Bool)
 | 0, _, _, _, _, _, _, _ => none
 | k + 1, x27, x28, x29, x30, x31, x32, x35 => if x35 = true then (some false) else (if x32 = true then ((impl_BodyAt.f k x31 (x27.length : Int)).bind fun bt36 => ((impl_CommitOf.f k x28 x29 x30).bind fun bt37 => (if bt36.2.2 = true then (if bt36.2.1 = true then (if bt36.1.toList = x30.toList then (if bt37.2 = true then (if 0 ≤ (x27.length : Int) then (if (x27.length : Int) < (x31.length : Int) then (some (((rd_T40 x31 (x27.length : Int)).f2).toList == bt37.1.toList)) else (none)) else (none)) else (some false)) else (some false)) else (some false)) else (some false)))) else (some true))
end
def laws_FnShelf.f (k : Nat) (l0 : List Int) (l1 : List Int) : Option (Bool) := if (wrap64 ((l0.length : Int) + (l1.length : Int))) > 1048576 then (some true) else ((spec_DrawShowSlot.f k l0).bind fun bt10 => ((impl_ShowSlot.f k bt10.1 bt10.2).bind fun bt11 => ((spec_ShowSlot.f k bt10.1 bt10.2).bind fun bt12 => ((impl_ShelfDigest.f k bt10.1).bind fun bt13 => ((spec_ShelfDigest.f k bt10.1).bind fun bt14 => (if (bt11.2.2.2.2.2.2 != bt12.2.2.2.2.2.2) = true then (laws_FnShelf.j0 k l1 bt10.2 bt11.2.2.2.2.2.1 bt11.2.2.2.2.2.2 bt13.1 bt13.2 true bt11.1 bt11.2.1 bt11.2.2.1 bt11.2.2.2.1 bt11.2.2.2.2.1) else (if (!(bt11.1.toList == bt12.1.toList) || (!(bt11.2.1.toList == bt12.2.1.toList) || (!(bt11.2.2.1.toList == bt12.2.2.1.toList) || (!(bt11.2.2.2.1.toList == bt12.2.2.2.1.toList) || (!(bt11.2.2.2.2.1 == bt12.2.2.2.2.1)))))) = true then (laws_FnShelf.j0 k l1 bt10.2 bt11.2.2.2.2.2.1 bt11.2.2.2.2.2.2 bt13.1 bt13.2 true bt11.1 bt11.2.1 bt11.2.2.1 bt11.2.2.2.1 bt11.2.2.2.2.1) else ((laws_sameTexts.f k bt11.2.2.2.2.2.1 bt12.2.2.2.2.2.1).bind fun t15 => (if t15 = true then (if (bt13.2 != bt14.2) = true then (laws_FnShelf.j0 k l1 bt10.2 bt11.2.2.2.2.2.1 bt11.2.2.2.2.2.2 bt13.1 bt13.2 true bt11.1 bt11.2.1 bt11.2.2.1 bt11.2.2.2.1 bt11.2.2.2.2.1) else (laws_FnShelf.j0 k l1 bt10.2 bt11.2.2.2.2.2.1 bt11.2.2.2.2.2.2 bt13.1 bt13.2 (bt13.1.toList != bt14.1.toList) bt11.1 bt11.2.1 bt11.2.2.1 bt11.2.2.2.1 bt11.2.2.2.2.1)) else (laws_FnShelf.j0 k l1 bt10.2 bt11.2.2.2.2.2.1 bt11.2.2.2.2.2.2 bt13.1 bt13.2 true bt11.1 bt11.2.1 bt11.2.2.1 bt11.2.2.2.1 bt11.2.2.2.2.1))))))))))
theorem laws_FnShelf.calls (k : Nat) (A0 : Option Addr) (c0 : Nat) (l0 : List Int) (A1 : Option Addr) (c1 : Nat) (l1 : List Int) (r : Bool) (w : World) (hr0 : Kd.C (Kd.int .u8) w A0 l0.length l0) (hc0 : l0.length ≤ c0) (hr1 : Kd.C (Kd.int .u8) w A1 l1.length l1) (hc1 : l1.length ≤ c1) (h : laws_FnShelf.f k l0 l1 = some r) :
  Calls Try.prog 4 #[.slice A0 l0.length c0, .slice A1 l1.length c1] w fun e w' => e = .returned (.bool r) ∧ Below w.heap.size w w' := by
 have hu40 := Try.underlying40; have HR0 := zA hr0; have HC0 := zA hc0; clear hr0 hc0; have HR1 := zA hr1; have HC1 := zA hc1; clear hr1 hc1; have HB := zA (Below.refl w.heap.size w); have H : (if (wrap64 ((l0.length : Int) + (l1.length : Int))) > 1048576 then (some true) else ((spec_DrawShowSlot.f k l0).bind fun bt100 => ((impl_ShowSlot.f k bt100.1 bt100.2).bind fun bt616 => ((spec_ShowSlot.f k bt100.1 bt100.2).bind fun bt626 => ((impl_ShelfDigest.f k bt100.1).bind fun bt636 => ((spec_ShelfDigest.f k bt100.1).bind fun bt638 => (if (bt616.2.2.2.2.2.2 != bt626.2.2.2.2.2.2) = true then (laws_FnShelf.j0 k l1 bt100.2 bt616.2.2.2.2.2.1 bt616.2.2.2.2.2.2 bt636.1 bt636.2 true bt616.1 bt616.2.1 bt616.2.2.1 bt616.2.2.2.1 bt616.2.2.2.2.1) else (if (!(bt616.1.toList == bt626.1.toList) || (!(bt616.2.1.toList == bt626.2.1.toList) || (!(bt616.2.2.1.toList == bt626.2.2.1.toList) || (!(bt616.2.2.2.1.toList == bt626.2.2.2.1.toList) || (!(bt616.2.2.2.2.1 == bt626.2.2.2.2.1)))))) = true then (laws_FnShelf.j0 k l1 bt100.2 bt616.2.2.2.2.2.1 bt616.2.2.2.2.2.2 bt636.1 bt636.2 true bt616.1 bt616.2.1 bt616.2.2.1 bt616.2.2.2.1 bt616.2.2.2.2.1) else ((laws_sameTexts.f k bt616.2.2.2.2.2.1 bt626.2.2.2.2.2.1).bind fun t640 => (if t640 = true then (if (bt636.2 != bt638.2) = true then (laws_FnShelf.j0 k l1 bt100.2 bt616.2.2.2.2.2.1 bt616.2.2.2.2.2.2 bt636.1 bt636.2 true bt616.1 bt616.2.1 bt616.2.2.1 bt616.2.2.2.1 bt616.2.2.2.2.1) else (laws_FnShelf.j0 k l1 bt100.2 bt616.2.2.2.2.2.1 bt616.2.2.2.2.2.2 bt636.1 bt636.2 (bt636.1.toList != bt638.1.toList) bt616.1 bt616.2.1 bt616.2.2.1 bt616.2.2.2.1 bt616.2.2.2.2.1)) else (laws_FnShelf.j0 k l1 bt100.2 bt616.2.2.2.2.2.1 bt616.2.2.2.2.2.2 bt636.1 bt636.2 true bt616.1 bt616.2.1 bt616.2.2.1 bt616.2.2.2.1 bt616.2.2.2.2.1))))))))))) = some r := h; clear h
 by_cases c3 : (wrap64 ((l0.length : Int) + (l1.length : Int))) > 1048576
 ·rw [if_pos c3] at H
  have c3b0 : decide (1048576 < (wrap64 ((l0.length : Int) + (l1.length : Int)))) = true := zX c3; clear c3
  as_aux_lemma =>
   obtain rfl := Option.some.inj H; go_enter Try.func4, Try.ntmps4; go_wp2; go_ret; exact ⟨by first | rfl | (simp <;> rfl) | (simp [*] <;> rfl), by (with_reducible repeat first | exact HB.out | apply zH | apply zF | apply zG) <;> exact HB.out⟩
 ·rw [if_neg c3] at H
  have c3b0 : decide (1048576 < (wrap64 ((l0.length : Int) + (l1.length : Int)))) = false := decide_eq_false c3; clear c3; replace H := zAF H; obtain ⟨⟨t100, t613⟩, A40, H⟩ := H; replace H : ((impl_ShowSlot.f k t100 t613).bind fun bt616 => ((spec_ShowSlot.f k t100 t613).bind fun bt626 => ((impl_ShelfDigest.f k t100).bind fun bt636 => ((spec_ShelfDigest.f k t100).bind fun bt638 => (if (bt616.2.2.2.2.2.2 != bt626.2.2.2.2.2.2) = true then (laws_FnShelf.j0 k l1 t613 bt616.2.2.2.2.2.1 bt616.2.2.2.2.2.2 bt636.1 bt636.2 true bt616.1 bt616.2.1 bt616.2.2.1 bt616.2.2.2.1 bt616.2.2.2.2.1) else (if (!(bt616.1.toList == bt626.1.toList) || (!(bt616.2.1.toList == bt626.2.1.toList) || (!(bt616.2.2.1.toList == bt626.2.2.1.toList) || (!(bt616.2.2.2.1.toList == bt626.2.2.2.1.toList) || (!(bt616.2.2.2.2.1 == bt626.2.2.2.2.1)))))) = true then (laws_FnShelf.j0 k l1 t613 bt616.2.2.2.2.2.1 bt616.2.2.2.2.2.2 bt636.1 bt636.2 true bt616.1 bt616.2.1 bt616.2.2.1 bt616.2.2.2.1 bt616.2.2.2.2.1) else ((laws_sameTexts.f k bt616.2.2.2.2.2.1 bt626.2.2.2.2.2.1).bind fun t640 => (if t640 = true then (if (bt636.2 != bt638.2) = true then (laws_FnShelf.j0 k l1 t613 bt616.2.2.2.2.2.1 bt616.2.2.2.2.2.2 bt636.1 bt636.2 true bt616.1 bt616.2.1 bt616.2.2.1 bt616.2.2.2.1 bt616.2.2.2.2.1) else (laws_FnShelf.j0 k l1 t613 bt616.2.2.2.2.2.1 bt616.2.2.2.2.2.2 bt636.1 bt636.2 (bt636.1.toList != bt638.1.toList) bt616.1 bt616.2.1 bt616.2.2.1 bt616.2.2.2.1 bt616.2.2.2.2.1)) else (laws_FnShelf.j0 k l1 t613 bt616.2.2.2.2.2.1 bt616.2.2.2.2.2.2 bt636.1 bt636.2 true bt616.1 bt616.2.1 bt616.2.2.1 bt616.2.2.2.1 bt616.2.2.2.2.1))))))))) = some r := H; have A4 := zA A40; clear A40; replace H := zAF H; obtain ⟨⟨t616, t617, t618, t619, t620, t621, t624⟩, A50, H⟩ := H; replace H : ((spec_ShowSlot.f k t100 t613).bind fun bt626 => ((impl_ShelfDigest.f k t100).bind fun bt636 => ((spec_ShelfDigest.f k t100).bind fun bt638 => (if (t624 != bt626.2.2.2.2.2.2) = true then (laws_FnShelf.j0 k l1 t613 t621 t624 bt636.1 bt636.2 true t616 t617 t618 t619 t620) else (if (!(t616.toList == bt626.1.toList) || (!(t617.toList == bt626.2.1.toList) || (!(t618.toList == bt626.2.2.1.toList) || (!(t619.toList == bt626.2.2.2.1.toList) || (!(t620 == bt626.2.2.2.2.1)))))) = true then (laws_FnShelf.j0 k l1 t613 t621 t624 bt636.1 bt636.2 true t616 t617 t618 t619 t620) else ((laws_sameTexts.f k t621 bt626.2.2.2.2.2.1).bind fun t640 => (if t640 = true then (if (bt636.2 != bt638.2) = true then (laws_FnShelf.j0 k l1 t613 t621 t624 bt636.1 bt636.2 true t616 t617 t618 t619 t620) else (laws_FnShelf.j0 k l1 t613 t621 t624 bt636.1 bt636.2 (bt636.1.toList != bt638.1.toList) t616 t617 t618 t619 t620)) else (laws_FnShelf.j0 k l1 t613 t621 t624 bt636.1 bt636.2 true t616 t617 t618 t619 t620)))))))) = some r := H; have A5 := zA A50; clear A50; replace H := zAF H; obtain ⟨⟨t626, t627, t628, t629, t630, t631, t634⟩, A60, H⟩ := H; replace H : ((impl_ShelfDigest.f k t100).bind fun bt636 => ((spec_ShelfDigest.f k t100).bind fun bt638 => (if (t624 != t634) = true then (laws_FnShelf.j0 k l1 t613 t621 t624 bt636.1 bt636.2 true t616 t617 t618 t619 t620) else (if (!(t616.toList == t626.toList) || (!(t617.toList == t627.toList) || (!(t618.toList == t628.toList) || (!(t619.toList == t629.toList) || (!(t620 == t630)))))) = true then (laws_FnShelf.j0 k l1 t613 t621 t624 bt636.1 bt636.2 true t616 t617 t618 t619 t620) else ((laws_sameTexts.f k t621 t631).bind fun t640 => (if t640 = true then (if (bt636.2 != bt638.2) = true then (laws_FnShelf.j0 k l1 t613 t621 t624 bt636.1 bt636.2 true t616 t617 t618 t619 t620) else (laws_FnShelf.j0 k l1 t613 t621 t624 bt636.1 bt636.2 (bt636.1.toList != bt638.1.toList) t616 t617 t618 t619 t620)) else (laws_FnShelf.j0 k l1 t613 t621 t624 bt636.1 bt636.2 true t616 t617 t618 t619 t620))))))) = some r := H; have A6 := zA A60; clear A60; replace H := zAF H; obtain ⟨⟨t636, t637⟩, A70, H⟩ := H; replace H : ((spec_ShelfDigest.f k t100).bind fun bt638 => (if (t624 != t634) = true then (laws_FnShelf.j0 k l1 t613 t621 t624 t636 t637 true t616 t617 t618 t619 t620) else (if (!(t616.toList == t626.toList) || (!(t617.toList == t627.toList) || (!(t618.toList == t628.toList) || (!(t619.toList == t629.toList) || (!(t620 == t630)))))) = true then (laws_FnShelf.j0 k l1 t613 t621 t624 t636 t637 true t616 t617 t618 t619 t620) else ((laws_sameTexts.f k t621 t631).bind fun t640 => (if t640 = true then (if (t637 != bt638.2) = true then (laws_FnShelf.j0 k l1 t613 t621 t624 t636 t637 true t616 t617 t618 t619 t620) else (laws_FnShelf.j0 k l1 t613 t621 t624 t636 t637 (t636.toList != bt638.1.toList) t616 t617 t618 t619 t620)) else (laws_FnShelf.j0 k l1 t613 t621 t624 t636 t637 true t616 t617 t618 t619 t620)))))) = some r := H; have A7 := zA A70; clear A70; replace H := zAF H; obtain ⟨⟨t638, t639⟩, A80, H⟩ := H; replace H : (if (t624 != t634) = true then (laws_FnShelf.j0 k l1 t613 t621 t624 t636 t637 true t616 t617 t618 t619 t620) else (if (!(t616.toList == t626.toList) || (!(t617.toList == t627.toList) || (!(t618.toList == t628.toList) || (!(t619.toList == t629.toList) || (!(t620 == t630)))))) = true then (laws_FnShelf.j0 k l1 t613 t621 t624 t636 t637 true t616 t617 t618 t619 t620) else ((laws_sameTexts.f k t621 t631).bind fun t640 => (if t640 = true then (if (t637 != t639) = true then (laws_FnShelf.j0 k l1 t613 t621 t624 t636 t637 true t616 t617 t618 t619 t620) else (laws_FnShelf.j0 k l1 t613 t621 t624 t636 t637 (t636.toList != t638.toList) t616 t617 t618 t619 t620)) else (laws_FnShelf.j0 k l1 t613 t621 t624 t636 t637 true t616 t617 t618 t619 t620))))) = some r := H; have A8 := zA A80; clear A80; have HC9 := zA H; clear H; go_enter Try.func4, Try.ntmps4; go_upto_region 8 with (first | ((with_reducible refine yB (f := 21) rfl ?_); refine goesL_ (some 55) rfl rfl Try.func21 (by kernel_rfl) rfl #[.slice A0 l0.length c0] rfl (by (try simp only [zAA, zAB, zAC]); first | done | rfl | (simp only [zZ, zY]; rfl)) ?_; (with_reducible refine (spec_DrawShowSlot.calls k _ _ l0 t100 t613 _ ?side1 ?side2 A4.out).mono ?_); (case side1 => repeat (first | exact HR0.out | (with_reducible refine zT ?_ _) | (with_reducible refine zU ?_ _) | (with_reducible refine zV ?_))); (case side2 => exact HC0.out); rintro e w10 ⟨v614, rfl, ho0, hb⟩; refine ⟨_, rfl, ?_⟩; have n0_ := zA (Kd.R_lower ho0 (zAE (by (with_reducible repeat first | exact HB.out | apply zH | apply zF | apply zG) <;> exact HB.out))); have n1_ := zA (zAD (by (with_reducible repeat first | exact HB.out | apply zH | apply zF | apply zG) <;> exact HB.out) hb); clear HB; have HO615 := n0_; have HB := n1_; clear n0_ n1_; (try clear hb); (try clear ho0); obtain ⟨Ao11, co11, eo11⟩ := Kd.R_slice HO615.out; subst eo11) | ((with_reducible refine yB (f := 22) rfl ?_); refine goesL_ (some 61) rfl rfl Try.func22 (by kernel_rfl) rfl #[.slice Ao11 t100.length co11, .int .i64 t613] rfl (by (try simp only [zAA, zAB, zAC]); first | done | rfl | (simp only [zZ, zY]; rfl)) ?_; (with_reducible refine (impl_ShowSlot.calls k _ _ t100 t613 t616 t617 t618 t619 t620 t621 t624 _ ?side1 ?side2 A5.out).mono ?_); (case side1 => repeat (first | exact (yD HO615.out).2.2 | (with_reducible refine zT ?_ _) | (with_reducible refine zU ?_ _) | (with_reducible refine zV ?_))); (case side2 => exact (yD HO615.out).2.1); rintro e w12 ⟨v622, rfl, ho0, hb⟩; refine ⟨_, rfl, ?_⟩; have n0_ := zA (Kd.R_below (by (with_reducible repeat first | apply zQ | apply zR | apply zS); exact HO615.out) hb); have n1_ := zA (Kd.R_lower ho0 (zAE (by (with_reducible repeat first | exact HB.out | apply zH | apply zF | apply zG) <;> exact HB.out))); have n2_ := zA (zAD (by (with_reducible repeat first | exact HB.out | apply zH | apply zF | apply zG) <;> exact HB.out) hb); clear HO615; clear HB; have HO615 := n0_; have HO623 := n1_; have HB := n2_; clear n0_ n1_ n2_; (try clear hb); (try clear ho0)) | ((with_reducible refine gate_dst (N := 7) rfl ?_); (try (refine gate_guard (by rfl) ?_; dsimp only)); refine box_event ?hg (N := 7) ?hd (cs := #[.string (⟨#[]⟩ : ByteArray), .string (⟨#[]⟩ : ByteArray), .string (⟨#[]⟩ : ByteArray), .string (⟨#[]⟩ : ByteArray), .bool false]) (t := 40) ?hr ?_; (case hd => rfl); (case hg => rfl); (case hr => first | (go_simp; done) | (go_simp; rfl)); intro gb625 hg w13 hbox hb; have n0_ := zA (Kd.R_below (Kd.R_elderB (by (with_reducible repeat first | apply zQ | apply zR | apply zS); exact HO615.out) gb625 (Nat.le_of_eq hg.symm)) hb); have n1_ := zA (Kd.R_below (by (with_reducible repeat first | apply zQ | apply zR | apply zS); exact HO623.out) hb); have n2_ := zA (zAD (by (with_reducible repeat first | exact HB.out | apply zH | apply zF | apply zG) <;> exact HB.out) hb); have n3_ := zA (hbox); have n4_ := zA ((by rw [hg]; exact (zAE (by (with_reducible repeat first | exact HB.out | apply zH | apply zF | apply zG) <;> exact HB.out)) : w.heap.size ≤ gb625)); have n5_ := zA ((by rw [hg]; exact (zAE (by (with_reducible repeat first | exact HB.out | apply zH | apply zF | apply zG) <;> exact HB.out)) : w.heap.size ≤ gb625)); clear HO615; clear HO623; clear HB; have HO615 := n0_; have HO623 := n1_; have HB := n2_; have BK625 := n3_; have GW625 := n4_; have GE625 := n5_; clear n0_ n1_ n2_ n3_ n4_ n5_; clear hb hbox hg; have hcz14_0 : w13.cell? ⟨gb625, 0, none⟩ = some (.string (⟨#[]⟩ : ByteArray)) := (zP BK625.out 0).trans rfl; have hcz14_1 : w13.cell? ⟨gb625, 1, none⟩ = some (.string (⟨#[]⟩ : ByteArray)) := (zP BK625.out 1).trans rfl; have hcz14_2 : w13.cell? ⟨gb625, 2, none⟩ = some (.string (⟨#[]⟩ : ByteArray)) := (zP BK625.out 2).trans rfl; have hcz14_3 : w13.cell? ⟨gb625, 3, none⟩ = some (.string (⟨#[]⟩ : ByteArray)) := (zP BK625.out 3).trans rfl; have hcz14_4 : w13.cell? ⟨gb625, 4, none⟩ = some (.bool false) := (zP BK625.out 4).trans rfl; have hfz14_0 := zO BK625.out 0; have hfz14_1 := zO BK625.out 1; have hfz14_2 := zO BK625.out 2; have hfz14_3 := zO BK625.out 3; have hfz14_4 := zO BK625.out 4) | ((with_reducible refine yB (f := 23) rfl ?_); refine goesL_ (some 68) rfl rfl Try.func23 (by kernel_rfl) rfl #[.slice Ao11 t100.length co11, .int .i64 t613] rfl (by (try simp only [zAA, zAB, zAC]); first | done | rfl | (simp only [zZ, zY]; rfl)) ?_; (with_reducible refine (spec_ShowSlot.calls k _ _ t100 t613 t626 t627 t628 t629 t630 t631 t634 _ ?side1 ?side2 A6.out).mono ?_); (case side1 => refine (yD (e := 40) (base := w.heap.size) (ok := fun k_ => (True ∧ k_ ≠ gb625)) (n := t100.length) (c := co11) ?_).2.2; exact (by (with_reducible repeat first | apply zQ | apply zR | apply zS); exact (yC (Kd.R_far (p := ⟨gb625, 4, none⟩) (Kd.R_far (p := ⟨gb625, 3, none⟩) (Kd.R_far (p := ⟨gb625, 2, none⟩) (Kd.R_far (p := ⟨gb625, 1, none⟩) (Kd.R_far (p := ⟨gb625, 0, none⟩) (yC HO615.out (fun k_ hk => (⟨hk, hk.2⟩ : _ ∧ k_ ≠ gb625))) (fun _ hk => hk.2) (.string t616)) (fun _ hk => hk.2) (.string t617)) (fun _ hk => hk.2) (.string t618)) (fun _ hk => hk.2) (.string t619)) (fun _ hk => hk.2) (.bool t620)) (fun _ h_ => h_.1)))); (case side2 => exact (yD HO615.out).2.1); rintro e w15 ⟨v632, rfl, ho0, hb⟩; refine ⟨_, rfl, ?_⟩; have n0_ := zA (Kd.R_below (by (with_reducible repeat first | apply zQ | apply zR | apply zS); exact (yC (Kd.R_far (p := ⟨gb625, 4, none⟩) (Kd.R_far (p := ⟨gb625, 3, none⟩) (Kd.R_far (p := ⟨gb625, 2, none⟩) (Kd.R_far (p := ⟨gb625, 1, none⟩) (Kd.R_far (p := ⟨gb625, 0, none⟩) (yC HO615.out (fun k_ hk => (⟨hk, hk.2⟩ : _ ∧ k_ ≠ gb625))) (fun _ hk => hk.2) (.string t616)) (fun _ hk => hk.2) (.string t617)) (fun _ hk => hk.2) (.string t618)) (fun _ hk => hk.2) (.string t619)) (fun _ hk => hk.2) (.bool t620)) (fun _ h_ => h_.1))) hb); have n1_ := zA (yJ (by (with_reducible repeat first | apply zQ | apply zR | apply zS); exact (yC (Kd.R_far (p := ⟨gb625, 4, none⟩) (Kd.R_far (p := ⟨gb625, 3, none⟩) (Kd.R_far (p := ⟨gb625, 2, none⟩) (Kd.R_far (p := ⟨gb625, 1, none⟩) (Kd.R_far (p := ⟨gb625, 0, none⟩) (Kd.R_types HO623.out BK625.out (by decide)) (fun _ hk => hk.2) (.string t616)) (fun _ hk => hk.2) (.string t617)) (fun _ hk => hk.2) (.string t618)) (fun _ hk => hk.2) (.string t619)) (fun _ hk => hk.2) (.bool t620)) (fun _ h_ => h_.1))) (Kd.R_base ho0) hb); have n2_ := zA (Kd.R_lower (yK ho0 (Kd.R_lt (by (with_reducible repeat first | apply zQ | apply zR | apply zS); exact (yC (Kd.R_far (p := ⟨gb625, 4, none⟩) (Kd.R_far (p := ⟨gb625, 3, none⟩) (Kd.R_far (p := ⟨gb625, 2, none⟩) (Kd.R_far (p := ⟨gb625, 1, none⟩) (Kd.R_far (p := ⟨gb625, 0, none⟩) (Kd.R_types HO623.out BK625.out (by decide)) (fun _ hk => hk.2) (.string t616)) (fun _ hk => hk.2) (.string t617)) (fun _ hk => hk.2) (.string t618)) (fun _ hk => hk.2) (.string t619)) (fun _ hk => hk.2) (.bool t620)) (fun _ h_ => h_.1))))) (zAE (by repeat (first | (with_reducible first | exact HB.out | apply zH | apply zF | apply zG | refine zI ?_ GE625.out) | exact HB.out)))); have n3_ := zA (yE (g := gb625) (o := .cells #[.string t616, .string t617, .string t618, .string t619, .bool t620] 40 (0, 0)) (by (with_reducible repeat (first | refine zL ?_ _ | refine zN ?_ | refine zM ?_ _)); refine blk_put (cs := #[.string t616, .string t617, .string t618, .string t619, .bool false]) ?_ 4 _ rfl; (with_reducible repeat (first | refine zL ?_ _ | refine zN ?_ | refine zM ?_ _)); refine blk_put (cs := #[.string t616, .string t617, .string t618, .string (⟨#[]⟩ : ByteArray), .bool false]) ?_ 3 _ rfl; (with_reducible repeat (first | refine zL ?_ _ | refine zN ?_ | refine zM ?_ _)); refine blk_put (cs := #[.string t616, .string t617, .string (⟨#[]⟩ : ByteArray), .string (⟨#[]⟩ : ByteArray), .bool false]) ?_ 2 _ rfl; (with_reducible repeat (first | refine zL ?_ _ | refine zN ?_ | refine zM ?_ _)); refine blk_put (cs := #[.string t616, .string (⟨#[]⟩ : ByteArray), .string (⟨#[]⟩ : ByteArray), .string (⟨#[]⟩ : ByteArray), .bool false]) ?_ 1 _ rfl; (with_reducible repeat (first | refine zL ?_ _ | refine zN ?_ | refine zM ?_ _)); refine blk_put (cs := #[.string (⟨#[]⟩ : ByteArray), .string (⟨#[]⟩ : ByteArray), .string (⟨#[]⟩ : ByteArray), .string (⟨#[]⟩ : ByteArray), .bool false]) ?_ 0 _ rfl; (with_reducible repeat (first | refine zL ?_ _ | refine zN ?_ | refine zM ?_ _)); exact BK625.out) hb); have n4_ := zA (zAD (by repeat (first | (with_reducible first | exact HB.out | apply zH | apply zF | apply zG | refine zI ?_ GE625.out) | exact HB.out)) hb); clear HO615; clear HO623; clear BK625; clear HB; have HO615 := n0_; have HO623 := n1_; have HO633 := n2_; have BK625 := n3_; have HB := n4_; clear n0_ n1_ n2_ n3_ n4_; (try clear hb); (try clear hk); (try clear ho0)) | ((with_reducible refine gate_dst (N := 10) rfl ?_); (try (refine gate_guard (by rfl) ?_; dsimp only)); refine box_event ?hg (N := 10) ?hd (cs := #[.string (⟨#[]⟩ : ByteArray), .string (⟨#[]⟩ : ByteArray), .string (⟨#[]⟩ : ByteArray), .string (⟨#[]⟩ : ByteArray), .bool false]) (t := 40) ?hr ?_; (case hd => rfl); (case hg => rfl); (case hr => first | (go_simp; done) | (go_simp; rfl)); intro gb635 hg w16 hbox hb; have n0_ := zA (Kd.R_below (Kd.R_elderB (by (with_reducible repeat first | apply zQ | apply zR | apply zS); exact HO615.out) gb635 (Nat.le_of_eq hg.symm)) hb); have n1_ := zA (Kd.R_below (by (with_reducible repeat first | apply zQ | apply zR | apply zS); exact HO623.out) hb); have n2_ := zA (Kd.R_below (by (with_reducible repeat first | apply zQ | apply zR | apply zS); exact HO633.out) hb); have n3_ := zA (yE (g := gb625) (o := .cells #[.string t616, .string t617, .string t618, .string t619, .bool t620] 40 (0, 0)) (by (with_reducible repeat (first | refine zL ?_ _ | refine zN ?_ | refine zM ?_ _)); exact BK625.out) hb); have n4_ := zA (zAD (by repeat (first | (with_reducible first | exact HB.out | apply zH | apply zF | apply zG | refine zI ?_ GE625.out) | exact HB.out)) hb); have n5_ := zA (hbox); have n6_ := zA ((by rw [hg]; exact (zAE (by repeat (first | (with_reducible first | exact HB.out | apply zH | apply zF | apply zG | refine zI ?_ GE625.out) | exact HB.out))) : w.heap.size ≤ gb635)); have n7_ := zA ((by rw [hg]; exact (zAE (by repeat (first | (with_reducible first | exact HB.out | apply zH | apply zF | apply zG | refine zI ?_ GE625.out) | exact HB.out))) : w.heap.size ≤ gb635)); have n8_ := zA ((by rw [hg]; exact zK (blk_lt (g := gb625) (o := .cells #[.string t616, .string t617, .string t618, .string t619, .bool t620] 40 (0, 0)) (by (with_reducible repeat (first | refine zL ?_ _ | refine zN ?_ | refine zM ?_ _)); exact BK625.out)) : gb625 ≠ gb635)); have n9_ := zA ((by rw [hg]; exact Nat.ne_of_gt (blk_lt (g := gb625) (o := .cells #[.string t616, .string t617, .string t618, .string t619, .bool t620] 40 (0, 0)) (by (with_reducible repeat (first | refine zL ?_ _ | refine zN ?_ | refine zM ?_ _)); exact BK625.out)) : gb635 ≠ gb625)); clear HO615; clear HO623; clear HO633; clear BK625; clear HB; have HO615 := n0_; have HO623 := n1_; have HO633 := n2_; have BK625 := n3_; have HB := n4_; have BK635 := n5_; have GW635 := n6_; have GE635 := n7_; have NB625_635 := n8_; have NB635_625 := n9_; clear n0_ n1_ n2_ n3_ n4_ n5_ n6_ n7_ n8_ n9_; clear hb hbox hg; have hnb17 := NB635_625.out; have hnc17 := NB625_635.out; have hcz18_0 : w16.cell? ⟨gb635, 0, none⟩ = some (.string (⟨#[]⟩ : ByteArray)) := (zP BK635.out 0).trans rfl; have hcz18_1 : w16.cell? ⟨gb635, 1, none⟩ = some (.string (⟨#[]⟩ : ByteArray)) := (zP BK635.out 1).trans rfl; have hcz18_2 : w16.cell? ⟨gb635, 2, none⟩ = some (.string (⟨#[]⟩ : ByteArray)) := (zP BK635.out 2).trans rfl; have hcz18_3 : w16.cell? ⟨gb635, 3, none⟩ = some (.string (⟨#[]⟩ : ByteArray)) := (zP BK635.out 3).trans rfl; have hcz18_4 : w16.cell? ⟨gb635, 4, none⟩ = some (.bool false) := (zP BK635.out 4).trans rfl; have hfz18_0 := zO BK635.out 0; have hfz18_1 := zO BK635.out 1; have hfz18_2 := zO BK635.out 2; have hfz18_3 := zO BK635.out 3; have hfz18_4 := zO BK635.out 4) | ((with_reducible refine yB (f := 24) rfl ?_); refine goesL_ (some 74) rfl rfl Try.func24 (by kernel_rfl) rfl #[.slice Ao11 t100.length co11] rfl (by (try simp only [zAA, zAB, zAC]); first | done | rfl | (simp only [zZ, zY]; rfl)) ?_; (with_reducible refine (impl_ShelfDigest.calls k _ _ t100 t636 t637 _ ?side1 ?side2 A7.out).mono ?_); (case side1 => refine (yD (e := 40) (base := w.heap.size) (ok := fun k_ => ((True ∧ k_ ≠ gb625) ∧ k_ ≠ gb635)) (n := t100.length) (c := co11) ?_).2.2; exact (by (with_reducible repeat first | apply zQ | apply zR | apply zS); exact (yC (Kd.R_far (p := ⟨gb635, 4, none⟩) (Kd.R_far (p := ⟨gb635, 3, none⟩) (Kd.R_far (p := ⟨gb635, 2, none⟩) (Kd.R_far (p := ⟨gb635, 1, none⟩) (Kd.R_far (p := ⟨gb635, 0, none⟩) (yC HO615.out (fun k_ hk => (⟨hk, hk.2⟩ : _ ∧ k_ ≠ gb635))) (fun _ hk => hk.2) (.string t626)) (fun _ hk => hk.2) (.string t627)) (fun _ hk => hk.2) (.string t628)) (fun _ hk => hk.2) (.string t629)) (fun _ hk => hk.2) (.bool t630)) (fun _ h_ => h_.1)))); (case side2 => exact (yD HO615.out).2.1); rintro e w19 ⟨rfl, hb⟩; refine ⟨_, rfl, ?_⟩; have n0_ := zA (Kd.R_below (by (with_reducible repeat first | apply zQ | apply zR | apply zS); exact (yC (Kd.R_far (p := ⟨gb635, 4, none⟩) (Kd.R_far (p := ⟨gb635, 3, none⟩) (Kd.R_far (p := ⟨gb635, 2, none⟩) (Kd.R_far (p := ⟨gb635, 1, none⟩) (Kd.R_far (p := ⟨gb635, 0, none⟩) (yC HO615.out (fun k_ hk => (⟨hk, hk.2⟩ : _ ∧ k_ ≠ gb635))) (fun _ hk => hk.2) (.string t626)) (fun _ hk => hk.2) (.string t627)) (fun _ hk => hk.2) (.string t628)) (fun _ hk => hk.2) (.string t629)) (fun _ hk => hk.2) (.bool t630)) (fun _ h_ => h_.1))) hb); have n1_ := zA (Kd.R_below (by (with_reducible repeat first | apply zQ | apply zR | apply zS); exact (yC (Kd.R_far (p := ⟨gb635, 4, none⟩) (Kd.R_far (p := ⟨gb635, 3, none⟩) (Kd.R_far (p := ⟨gb635, 2, none⟩) (Kd.R_far (p := ⟨gb635, 1, none⟩) (Kd.R_far (p := ⟨gb635, 0, none⟩) (Kd.R_types HO623.out BK635.out (by decide)) (fun _ hk => hk.2) (.string t626)) (fun _ hk => hk.2) (.string t627)) (fun _ hk => hk.2) (.string t628)) (fun _ hk => hk.2) (.string t629)) (fun _ hk => hk.2) (.bool t630)) (fun _ h_ => h_.1))) hb); have n2_ := zA (Kd.R_below (by (with_reducible repeat first | apply zQ | apply zR | apply zS); exact (yC (Kd.R_far (p := ⟨gb635, 4, none⟩) (Kd.R_far (p := ⟨gb635, 3, none⟩) (Kd.R_far (p := ⟨gb635, 2, none⟩) (Kd.R_far (p := ⟨gb635, 1, none⟩) (Kd.R_far (p := ⟨gb635, 0, none⟩) (Kd.R_types HO633.out BK635.out (by decide)) (fun _ hk => hk.2) (.string t626)) (fun _ hk => hk.2) (.string t627)) (fun _ hk => hk.2) (.string t628)) (fun _ hk => hk.2) (.string t629)) (fun _ hk => hk.2) (.bool t630)) (fun _ h_ => h_.1))) hb); have n3_ := zA (yE (g := gb625) (o := .cells #[.string t616, .string t617, .string t618, .string t619, .bool t620] 40 (0, 0)) (by (with_reducible repeat (first | refine zL ?_ _ | refine zN ?_ | refine zM ?_ _)); refine blk_far ?_ NB625_635.out _; (with_reducible repeat (first | refine zL ?_ _ | refine zN ?_ | refine zM ?_ _)); refine blk_far ?_ NB625_635.out _; (with_reducible repeat (first | refine zL ?_ _ | refine zN ?_ | refine zM ?_ _)); refine blk_far ?_ NB625_635.out _; (with_reducible repeat (first | refine zL ?_ _ | refine zN ?_ | refine zM ?_ _)); refine blk_far ?_ NB625_635.out _; (with_reducible repeat (first | refine zL ?_ _ | refine zN ?_ | refine zM ?_ _)); refine blk_far ?_ NB625_635.out _; (with_reducible repeat (first | refine zL ?_ _ | refine zN ?_ | refine zM ?_ _)); exact BK625.out) hb); have n4_ := zA (yE (g := gb635) (o := .cells #[.string t626, .string t627, .string t628, .string t629, .bool t630] 40 (0, 0)) (by (with_reducible repeat (first | refine zL ?_ _ | refine zN ?_ | refine zM ?_ _)); refine blk_put (cs := #[.string t626, .string t627, .string t628, .string t629, .bool false]) ?_ 4 _ rfl; (with_reducible repeat (first | refine zL ?_ _ | refine zN ?_ | refine zM ?_ _)); refine blk_put (cs := #[.string t626, .string t627, .string t628, .string (⟨#[]⟩ : ByteArray), .bool false]) ?_ 3 _ rfl; (with_reducible repeat (first | refine zL ?_ _ | refine zN ?_ | refine zM ?_ _)); refine blk_put (cs := #[.string t626, .string t627, .string (⟨#[]⟩ : ByteArray), .string (⟨#[]⟩ : ByteArray), .bool false]) ?_ 2 _ rfl; (with_reducible repeat (first | refine zL ?_ _ | refine zN ?_ | refine zM ?_ _)); refine blk_put (cs := #[.string t626, .string (⟨#[]⟩ : ByteArray), .string (⟨#[]⟩ : ByteArray), .string (⟨#[]⟩ : ByteArray), .bool false]) ?_ 1 _ rfl; (with_reducible repeat (first | refine zL ?_ _ | refine zN ?_ | refine zM ?_ _)); refine blk_put (cs := #[.string (⟨#[]⟩ : ByteArray), .string (⟨#[]⟩ : ByteArray), .string (⟨#[]⟩ : ByteArray), .string (⟨#[]⟩ : ByteArray), .bool false]) ?_ 0 _ rfl; (with_reducible repeat (first | refine zL ?_ _ | refine zN ?_ | refine zM ?_ _)); exact BK635.out) hb); have n5_ := zA (zAD (by repeat (first | (with_reducible first | exact HB.out | apply zH | apply zF | apply zG | refine zI ?_ GE625.out | refine zI ?_ GE635.out) | exact HB.out)) hb); clear HO615; clear HO623; clear HO633; clear BK625; clear BK635; clear HB; have HO615 := n0_; have HO623 := n1_; have HO633 := n2_; have BK625 := n3_; have BK635 := n4_; have HB := n5_; clear n0_ n1_ n2_ n3_ n4_ n5_; (try clear hb); (try clear hk)) | ((with_reducible refine yB (f := 25) rfl ?_); refine goesL_ (some 79) rfl rfl Try.func25 (by kernel_rfl) rfl #[.slice Ao11 t100.length co11] rfl (by (try simp only [zAA, zAB, zAC]); first | done | rfl | (simp only [zZ, zY]; rfl)) ?_; (with_reducible refine (spec_ShelfDigest.calls k _ _ t100 t638 t639 _ ?side1 ?side2 A8.out).mono ?_); (case side1 => repeat (first | exact (yD HO615.out).2.2 | (with_reducible refine zT ?_ _) | (with_reducible refine zU ?_ _) | (with_reducible refine zV ?_))); (case side2 => exact (yD HO615.out).2.1); rintro e w20 ⟨rfl, hb⟩; refine ⟨_, rfl, ?_⟩; have n0_ := zA (Kd.R_below (by (with_reducible repeat first | apply zQ | apply zR | apply zS); exact HO615.out) hb); have n1_ := zA (Kd.R_below (by (with_reducible repeat first | apply zQ | apply zR | apply zS); exact HO623.out) hb); have n2_ := zA (Kd.R_below (by (with_reducible repeat first | apply zQ | apply zR | apply zS); exact HO633.out) hb); have n3_ := zA (yE (g := gb625) (o := .cells #[.string t616, .string t617, .string t618, .string t619, .bool t620] 40 (0, 0)) (by (with_reducible repeat (first | refine zL ?_ _ | refine zN ?_ | refine zM ?_ _)); exact BK625.out) hb); have n4_ := zA (yE (g := gb635) (o := .cells #[.string t626, .string t627, .string t628, .string t629, .bool t630] 40 (0, 0)) (by (with_reducible repeat (first | refine zL ?_ _ | refine zN ?_ | refine zM ?_ _)); exact BK635.out) hb); have n5_ := zA (zAD (by repeat (first | (with_reducible first | exact HB.out | apply zH | apply zF | apply zG | refine zI ?_ GE625.out | refine zI ?_ GE635.out) | exact HB.out)) hb); clear HO615; clear HO623; clear HO633; clear BK625; clear BK635; clear HB; have HO615 := n0_; have HO623 := n1_; have HO633 := n2_; have BK625 := n3_; have BK635 := n4_; have HB := n5_; clear n0_ n1_ n2_ n3_ n4_ n5_; (try clear hb)))
  (try simp only [Act.put, zC, zD, zE]); go_cut [105] (fun v105 wc => ∃ (kq : Nat) (x105_8 : Bool), v105 = .bool x105_8 ∧ Aside0 (laws_FnShelf.j0 kq l1 t613 t621 t624 t636 t637 x105_8 t616 t617 t618 t619 t620 = some r) ∧ Aside0 (kq ≤ k) ∧ Aside0 (Kd.R Kd.string 9 wc w.heap.size (fun _ => True) v622 t621) ∧ Aside0 (wc.heap[gb625]? = some (.cells #[.string t616, .string t617, .string t618, .string t619, .bool t620] 40 (0, 0))) ∧ Aside0 (wc.heap[gb635]? = some (.cells #[.string t626, .string t627, .string t628, .string t629, .bool t630] 40 (0, 0))) ∧ Aside0 (Below w.heap.size w wc))
  case first =>
   have H := HC9.out; clear HC9
   by_cases c21 : (t624 != t634) = true
   ·rw [if_pos c21] at H
    have c21b0 : (t624 != t634) = true := c21; (try (have c21b1 : decide (t624 = t634) = false := by simpa using c21)); (try (have c21b2 : (t624 == t634) = false := by simpa using c21)); (try (have c21b3 : ¬ (t624 = t634) := by simpa using c21)); clear c21; (first | rw [c21b0] | (simp only [i64_w, i32_w]; rw [c21b0]) | skip)
    as_aux_lemma =>
     have H' := zA H; clear H; go_wp2; go_meet
     case rel => exact ⟨_, (true), (by first | rfl | (simp; done) | (simp [*]; done) | (simp [bne]; done)), H', ⟨by first | omega | exact Nat.le_refl _⟩, ⟨by (with_reducible repeat first | apply zQ | apply zR | apply zS); exact yC HO623.out (fun _ hk => trivial)⟩, ⟨by (with_reducible repeat (first | refine zL ?_ _ | refine zN ?_ | refine zM ?_ _)); exact BK625.out⟩, ⟨by (with_reducible repeat (first | refine zL ?_ _ | refine zN ?_ | refine zM ?_ _)); exact BK635.out⟩, ⟨by repeat (first | (with_reducible first | exact HB.out | apply zH | apply zF | apply zG | refine zI ?_ GE625.out | refine zI ?_ GE635.out) | exact HB.out)⟩⟩
   ·rw [if_neg c21] at H
    have c21b0 : (t624 != t634) = false := by simpa using c21
    (try (have c21b1 : decide (t624 = t634) = true := by simpa using c21)); (try (have c21b2 : (t624 == t634) = true := by simpa using c21)); clear c21; (first | rw [c21b0] | (simp only [i64_w, i32_w]; rw [c21b0]) | skip)
    by_cases c22 : (!(t616.toList == t626.toList) || (!(t617.toList == t627.toList) || (!(t618.toList == t628.toList) || (!(t619.toList == t629.toList) || (!(t620 == t630)))))) = true
    ·rw [if_pos c22] at H
     have c22b0 : (!(t616.toList == t626.toList) || (!(t617.toList == t627.toList) || (!(t618.toList == t628.toList) || (!(t619.toList == t629.toList) || (!(t620 == t630)))))) = true := c22; clear c22
     as_aux_lemma =>
      have H' := zA H; clear H; have hnb23 := NB625_635.out; have hnc23 := NB635_625.out; have hcz24_0 : w20.cell? ⟨gb625, 0, none⟩ = some (.string t616) := (zP BK625.out 0).trans rfl; have hcz24_1 : w20.cell? ⟨gb625, 1, none⟩ = some (.string t617) := (zP BK625.out 1).trans rfl; have hcz24_2 : w20.cell? ⟨gb625, 2, none⟩ = some (.string t618) := (zP BK625.out 2).trans rfl; have hcz24_3 : w20.cell? ⟨gb625, 3, none⟩ = some (.string t619) := (zP BK625.out 3).trans rfl; have hcz24_4 : w20.cell? ⟨gb625, 4, none⟩ = some (.bool t620) := (zP BK625.out 4).trans rfl; have hfz24_0 := zO BK625.out 0; have hfz24_1 := zO BK625.out 1; have hfz24_2 := zO BK625.out 2; have hfz24_3 := zO BK625.out 3; have hfz24_4 := zO BK625.out 4; have hcz25_0 : w20.cell? ⟨gb635, 0, none⟩ = some (.string t626) := (zP BK635.out 0).trans rfl; have hcz25_1 : w20.cell? ⟨gb635, 1, none⟩ = some (.string t627) := (zP BK635.out 1).trans rfl; have hcz25_2 : w20.cell? ⟨gb635, 2, none⟩ = some (.string t628) := (zP BK635.out 2).trans rfl; have hcz25_3 : w20.cell? ⟨gb635, 3, none⟩ = some (.string t629) := (zP BK635.out 3).trans rfl; have hcz25_4 : w20.cell? ⟨gb635, 4, none⟩ = some (.bool t630) := (zP BK635.out 4).trans rfl; have hfz25_0 := zO BK635.out 0; have hfz25_1 := zO BK635.out 1; have hfz25_2 := zO BK635.out 2; have hfz25_3 := zO BK635.out 3; have hfz25_4 := zO BK635.out 4; go_wp2; go_meet
      case rel => exact ⟨_, (true), (by first | rfl | (simp; done) | (simp [*]; done) | (simp [bne]; done)), H', ⟨by first | omega | exact Nat.le_refl _⟩, ⟨by (with_reducible repeat first | apply zQ | apply zR | apply zS); exact yC HO623.out (fun _ hk => trivial)⟩, ⟨by (with_reducible repeat (first | refine zL ?_ _ | refine zN ?_ | refine zM ?_ _)); exact BK625.out⟩, ⟨by (with_reducible repeat (first | refine zL ?_ _ | refine zN ?_ | refine zM ?_ _)); exact BK635.out⟩, ⟨by repeat (first | (with_reducible first | exact HB.out | apply zH | apply zF | apply zG | refine zI ?_ GE625.out | refine zI ?_ GE635.out) | exact HB.out)⟩⟩
    ·rw [if_neg c22] at H
     have c22b0 : (!(t616.toList == t626.toList) || (!(t617.toList == t627.toList) || (!(t618.toList == t628.toList) || (!(t619.toList == t629.toList) || (!(t620 == t630)))))) = false := by simpa using c22
     clear c22; replace H := zAF H; obtain ⟨t640, A260, H⟩ := H; replace H : (if t640 = true then (if (t637 != t639) = true then (laws_FnShelf.j0 k l1 t613 t621 t624 t636 t637 true t616 t617 t618 t619 t620) else (laws_FnShelf.j0 k l1 t613 t621 t624 t636 t637 (t636.toList != t638.toList) t616 t617 t618 t619 t620)) else (laws_FnShelf.j0 k l1 t613 t621 t624 t636 t637 true t616 t617 t618 t619 t620)) = some r := H; have A26 := zA A260; clear A260
     by_cases c27 : t640 = true
     ·subst c27
      have H1 : (if (t637 != t639) = true then (laws_FnShelf.j0 k l1 t613 t621 t624 t636 t637 true t616 t617 t618 t619 t620) else (laws_FnShelf.j0 k l1 t613 t621 t624 t636 t637 (t636.toList != t638.toList) t616 t617 t618 t619 t620)) = some r := by rw [if_pos rfl] at H; exact H
      clear H; have H := H1; clear H1
      by_cases c28 : (t637 != t639) = true
      ·rw [if_pos c28] at H
       have c28b0 : (t637 != t639) = true := c28; (try (have c28b1 : decide (t637 = t639) = false := by simpa using c28)); (try (have c28b2 : (t637 == t639) = false := by simpa using c28)); (try (have c28b3 : ¬ (t637 = t639) := by simpa using c28)); clear c28
       as_aux_lemma =>
        have H' := zA H; clear H; have hnb29 := NB625_635.out; have hnc29 := NB635_625.out; have hcz30_0 : w20.cell? ⟨gb625, 0, none⟩ = some (.string t616) := (zP BK625.out 0).trans rfl; have hcz30_1 : w20.cell? ⟨gb625, 1, none⟩ = some (.string t617) := (zP BK625.out 1).trans rfl; have hcz30_2 : w20.cell? ⟨gb625, 2, none⟩ = some (.string t618) := (zP BK625.out 2).trans rfl; have hcz30_3 : w20.cell? ⟨gb625, 3, none⟩ = some (.string t619) := (zP BK625.out 3).trans rfl; have hcz30_4 : w20.cell? ⟨gb625, 4, none⟩ = some (.bool t620) := (zP BK625.out 4).trans rfl; have hfz30_0 := zO BK625.out 0; have hfz30_1 := zO BK625.out 1; have hfz30_2 := zO BK625.out 2; have hfz30_3 := zO BK625.out 3; have hfz30_4 := zO BK625.out 4; have hcz31_0 : w20.cell? ⟨gb635, 0, none⟩ = some (.string t626) := (zP BK635.out 0).trans rfl; have hcz31_1 : w20.cell? ⟨gb635, 1, none⟩ = some (.string t627) := (zP BK635.out 1).trans rfl; have hcz31_2 : w20.cell? ⟨gb635, 2, none⟩ = some (.string t628) := (zP BK635.out 2).trans rfl; have hcz31_3 : w20.cell? ⟨gb635, 3, none⟩ = some (.string t629) := (zP BK635.out 3).trans rfl; have hcz31_4 : w20.cell? ⟨gb635, 4, none⟩ = some (.bool t630) := (zP BK635.out 4).trans rfl; have hfz31_0 := zO BK635.out 0; have hfz31_1 := zO BK635.out 1; have hfz31_2 := zO BK635.out 2; have hfz31_3 := zO BK635.out 3; have hfz31_4 := zO BK635.out 4; obtain ⟨Ao32, co32, eo32⟩ := Kd.R_slice HO623.out; subst eo32; obtain ⟨Ao33, co33, eo33⟩ := Kd.R_slice HO633.out; subst eo33; go_wp2_with (first | (go_at_call 26; (with_reducible refine (laws_sameTexts.calls k _ _ t621 _ _ t631 true _ ?side1 ?side2 ?side3 ?side4 A26.out).mono ?_); (case side1 => repeat (first | exact (yD HO623.out).2.2 | (with_reducible refine zT ?_ _) | (with_reducible refine zU ?_ _) | (with_reducible refine zV ?_))); (case side2 => exact (yD HO623.out).2.1); (case side3 => repeat (first | exact (yD HO633.out).2.2 | (with_reducible refine zT ?_ _) | (with_reducible refine zU ?_ _) | (with_reducible refine zV ?_))); (case side4 => exact (yD HO633.out).2.1); rintro e w' ⟨rfl, ⟨nd, rfl⟩⟩)); go_meet
        case rel => exact ⟨_, (true), (by first | rfl | (simp; done) | (simp [*]; done) | (simp [bne]; done)), H', ⟨by first | omega | exact Nat.le_refl _⟩, ⟨by (with_reducible repeat first | apply zQ | apply zR | apply zS); exact yC HO623.out (fun _ hk => trivial)⟩, ⟨by (with_reducible repeat (first | refine zL ?_ _ | refine zN ?_ | refine zM ?_ _)); exact BK625.out⟩, ⟨by (with_reducible repeat (first | refine zL ?_ _ | refine zN ?_ | refine zM ?_ _)); exact BK635.out⟩, ⟨by repeat (first | (with_reducible first | exact HB.out | apply zH | apply zF | apply zG | refine zI ?_ GE625.out | refine zI ?_ GE635.out) | exact HB.out)⟩⟩
      ·rw [if_neg c28] at H
       have c28b0 : (t637 != t639) = false := by simpa using c28
       (try (have c28b1 : decide (t637 = t639) = true := by simpa using c28)); (try (have c28b2 : (t637 == t639) = true := by simpa using c28)); clear c28
       as_aux_lemma =>
        have H' := zA H; clear H; have hnb34 := NB625_635.out; have hnc34 := NB635_625.out; have hcz35_0 : w20.cell? ⟨gb625, 0, none⟩ = some (.string t616) := (zP BK625.out 0).trans rfl; have hcz35_1 : w20.cell? ⟨gb625, 1, none⟩ = some (.string t617) := (zP BK625.out 1).trans rfl; have hcz35_2 : w20.cell? ⟨gb625, 2, none⟩ = some (.string t618) := (zP BK625.out 2).trans rfl; have hcz35_3 : w20.cell? ⟨gb625, 3, none⟩ = some (.string t619) := (zP BK625.out 3).trans rfl; have hcz35_4 : w20.cell? ⟨gb625, 4, none⟩ = some (.bool t620) := (zP BK625.out 4).trans rfl; have hfz35_0 := zO BK625.out 0; have hfz35_1 := zO BK625.out 1; have hfz35_2 := zO BK625.out 2; have hfz35_3 := zO BK625.out 3; have hfz35_4 := zO BK625.out 4; have hcz36_0 : w20.cell? ⟨gb635, 0, none⟩ = some (.string t626) := (zP BK635.out 0).trans rfl; have hcz36_1 : w20.cell? ⟨gb635, 1, none⟩ = some (.string t627) := (zP BK635.out 1).trans rfl; have hcz36_2 : w20.cell? ⟨gb635, 2, none⟩ = some (.string t628) := (zP BK635.out 2).trans rfl; have hcz36_3 : w20.cell? ⟨gb635, 3, none⟩ = some (.string t629) := (zP BK635.out 3).trans rfl; have hcz36_4 : w20.cell? ⟨gb635, 4, none⟩ = some (.bool t630) := (zP BK635.out 4).trans rfl; have hfz36_0 := zO BK635.out 0; have hfz36_1 := zO BK635.out 1; have hfz36_2 := zO BK635.out 2; have hfz36_3 := zO BK635.out 3; have hfz36_4 := zO BK635.out 4; obtain ⟨Ao37, co37, eo37⟩ := Kd.R_slice HO623.out; subst eo37; obtain ⟨Ao38, co38, eo38⟩ := Kd.R_slice HO633.out; subst eo38; go_wp2_with (first | (go_at_call 26; (with_reducible refine (laws_sameTexts.calls k _ _ t621 _ _ t631 true _ ?side1 ?side2 ?side3 ?side4 A26.out).mono ?_); (case side1 => repeat (first | exact (yD HO623.out).2.2 | (with_reducible refine zT ?_ _) | (with_reducible refine zU ?_ _) | (with_reducible refine zV ?_))); (case side2 => exact (yD HO623.out).2.1); (case side3 => repeat (first | exact (yD HO633.out).2.2 | (with_reducible refine zT ?_ _) | (with_reducible refine zU ?_ _) | (with_reducible refine zV ?_))); (case side4 => exact (yD HO633.out).2.1); rintro e w' ⟨rfl, ⟨nd, rfl⟩⟩)); go_meet
        case rel => exact ⟨_, ((t636.toList != t638.toList)), (by first | rfl | (simp; done) | (simp [*]; done) | (simp [bne]; done)), H', ⟨by first | omega | exact Nat.le_refl _⟩, ⟨by (with_reducible repeat first | apply zQ | apply zR | apply zS); exact yC HO623.out (fun _ hk => trivial)⟩, ⟨by (with_reducible repeat (first | refine zL ?_ _ | refine zN ?_ | refine zM ?_ _)); exact BK625.out⟩, ⟨by (with_reducible repeat (first | refine zL ?_ _ | refine zN ?_ | refine zM ?_ _)); exact BK635.out⟩, ⟨by repeat (first | (with_reducible first | exact HB.out | apply zH | apply zF | apply zG | refine zI ?_ GE625.out | refine zI ?_ GE635.out) | exact HB.out)⟩⟩
     ·replace c27 := Bool.eq_false_iff.mpr c27
      subst c27; have H1 : (laws_FnShelf.j0 k l1 t613 t621 t624 t636 t637 true t616 t617 t618 t619 t620) = some r := by rw [if_neg (show ¬ (false = true) by decide)] at H; exact H
      clear H; have H := H1; clear H1
      as_aux_lemma =>
       have H' := zA H; clear H; have hnb39 := NB625_635.out; have hnc39 := NB635_625.out; have hcz40_0 : w20.cell? ⟨gb625, 0, none⟩ = some (.string t616) := (zP BK625.out 0).trans rfl; have hcz40_1 : w20.cell? ⟨gb625, 1, none⟩ = some (.string t617) := (zP BK625.out 1).trans rfl; have hcz40_2 : w20.cell? ⟨gb625, 2, none⟩ = some (.string t618) := (zP BK625.out 2).trans rfl; have hcz40_3 : w20.cell? ⟨gb625, 3, none⟩ = some (.string t619) := (zP BK625.out 3).trans rfl; have hcz40_4 : w20.cell? ⟨gb625, 4, none⟩ = some (.bool t620) := (zP BK625.out 4).trans rfl; have hfz40_0 := zO BK625.out 0; have hfz40_1 := zO BK625.out 1; have hfz40_2 := zO BK625.out 2; have hfz40_3 := zO BK625.out 3; have hfz40_4 := zO BK625.out 4; have hcz41_0 : w20.cell? ⟨gb635, 0, none⟩ = some (.string t626) := (zP BK635.out 0).trans rfl; have hcz41_1 : w20.cell? ⟨gb635, 1, none⟩ = some (.string t627) := (zP BK635.out 1).trans rfl; have hcz41_2 : w20.cell? ⟨gb635, 2, none⟩ = some (.string t628) := (zP BK635.out 2).trans rfl; have hcz41_3 : w20.cell? ⟨gb635, 3, none⟩ = some (.string t629) := (zP BK635.out 3).trans rfl; have hcz41_4 : w20.cell? ⟨gb635, 4, none⟩ = some (.bool t630) := (zP BK635.out 4).trans rfl; have hfz41_0 := zO BK635.out 0; have hfz41_1 := zO BK635.out 1; have hfz41_2 := zO BK635.out 2; have hfz41_3 := zO BK635.out 3; have hfz41_4 := zO BK635.out 4; obtain ⟨Ao42, co42, eo42⟩ := Kd.R_slice HO623.out; subst eo42; obtain ⟨Ao43, co43, eo43⟩ := Kd.R_slice HO633.out; subst eo43; go_wp2_with (first | (go_at_call 26; (with_reducible refine (laws_sameTexts.calls k _ _ t621 _ _ t631 false _ ?side1 ?side2 ?side3 ?side4 A26.out).mono ?_); (case side1 => repeat (first | exact (yD HO623.out).2.2 | (with_reducible refine zT ?_ _) | (with_reducible refine zU ?_ _) | (with_reducible refine zV ?_))); (case side2 => exact (yD HO623.out).2.1); (case side3 => repeat (first | exact (yD HO633.out).2.2 | (with_reducible refine zT ?_ _) | (with_reducible refine zU ?_ _) | (with_reducible refine zV ?_))); (case side4 => exact (yD HO633.out).2.1); rintro e w' ⟨rfl, ⟨nd, rfl⟩⟩)); go_meet
       case rel => exact ⟨_, (true), (by first | rfl | (simp; done) | (simp [*]; done) | (simp [bne]; done)), H', ⟨by first | omega | exact Nat.le_refl _⟩, ⟨by (with_reducible repeat first | apply zQ | apply zR | apply zS); exact yC HO623.out (fun _ hk => trivial)⟩, ⟨by (with_reducible repeat (first | refine zL ?_ _ | refine zN ?_ | refine zM ?_ _)); exact BK625.out⟩, ⟨by (with_reducible repeat (first | refine zL ?_ _ | refine zN ?_ | refine zM ?_ _)); exact BK635.out⟩, ⟨by repeat (first | (with_reducible first | exact HB.out | apply zH | apply zF | apply zG | refine zI ?_ GE625.out | refine zI ?_ GE635.out) | exact HB.out)⟩⟩
  case rest =>
   clear HC9
   try clear c1
   try clear c2
   try clear p2
   try clear c3
   try clear c3b0
   try clear c4
   try clear p6
   try clear c17
   try clear c21
   try clear c21b0
   try clear c21b1
   try clear c21b2
   try clear c22
   try clear c22b0
   try clear c23
   try clear c24
   try clear c25
   try clear c27
   try clear c28
   try clear c28b0
   try clear c28b1
   try clear c28b2
   try clear c29
   try clear c34
   try clear c39
   try clear hcz14_0
   try clear hcz14_1
   try clear hcz14_2
   try clear hcz14_3
   try clear hcz14_4
   try clear hcz18_0
   try clear hcz18_1
   try clear hcz18_2
   try clear hcz18_3
   try clear hcz18_4
   try clear hcz24_0
   try clear hcz24_1
   try clear hcz24_2
   try clear hcz24_3
   try clear hcz24_4
   try clear hcz25_0
   try clear hcz25_1
   try clear hcz25_2
   try clear hcz25_3
   try clear hcz25_4
   try clear hcz30_0
   try clear hcz30_1
   try clear hcz30_2
   try clear hcz30_3
   try clear hcz30_4
   try clear hcz31_0
   try clear hcz31_1
   try clear hcz31_2
   try clear hcz31_3
   try clear hcz31_4
   try clear hcz35_0
   try clear hcz35_1
   try clear hcz35_2
   try clear hcz35_3
   try clear hcz35_4
   try clear hcz36_0
   try clear hcz36_1
   try clear hcz36_2
   try clear hcz36_3
   try clear hcz36_4
   try clear hcz40_0
   try clear hcz40_1
   try clear hcz40_2
   try clear hcz40_3
   try clear hcz40_4
   try clear hcz41_0
   try clear hcz41_1
   try clear hcz41_2
   try clear hcz41_3
   try clear hcz41_4
   try clear hfz14_0
   try clear hfz14_1
   try clear hfz14_2
   try clear hfz14_3
   try clear hfz14_4
   try clear hfz18_0
   try clear hfz18_1
   try clear hfz18_2
   try clear hfz18_3
   try clear hfz18_4
   try clear hfz24_0
   try clear hfz24_1
   try clear hfz24_2
   try clear hfz24_3
   try clear hfz24_4
   try clear hfz25_0
   try clear hfz25_1
   try clear hfz25_2
   try clear hfz25_3
   try clear hfz25_4
   try clear hfz30_0
   try clear hfz30_1
   try clear hfz30_2
   try clear hfz30_3
   try clear hfz30_4
   try clear hfz31_0
   try clear hfz31_1
   try clear hfz31_2
   try clear hfz31_3
   try clear hfz31_4
   try clear hfz35_0
   try clear hfz35_1
   try clear hfz35_2
   try clear hfz35_3
   try clear hfz35_4
   try clear hfz36_0
   try clear hfz36_1
   try clear hfz36_2
   try clear hfz36_3
   try clear hfz36_4
   try clear hfz40_0
   try clear hfz40_1
   try clear hfz40_2
   try clear hfz40_3
   try clear hfz40_4
   try clear hfz41_0
   try clear hfz41_1
   try clear hfz41_2
   try clear hfz41_3
   try clear hfz41_4
   obtain ⟨kq, x105_8, rfl, HA, HJ8, HO_8, BK625, BK635, HB⟩ := hcut
   cases kq with
   | zero => exact absurd HA.out (by simp [laws_FnShelf.j0])
   | succ kj8 =>
    have H := HA.out; clear HA; simp only [laws_FnShelf.j0] at H
    by_cases c44 : x105_8 = true
    ·subst c44
     have H1 : (some false) = some r := by rw [if_pos rfl] at H; exact H
     clear H; have H := H1; clear H1
     as_aux_lemma =>
      obtain rfl := Option.some.inj H; go_wp2; go_ret; exact ⟨by first | rfl | (simp <;> rfl) | (simp [*] <;> rfl), by repeat (first | (with_reducible first | exact HB.out | apply zH | apply zF | apply zG | refine zI ?_ GE625.out | refine zI ?_ GE635.out) | exact HB.out)⟩
    ·replace c44 := Bool.eq_false_iff.mpr c44
     subst c44; have H1 : (if t624 = true then ((impl_CheckSlot.f kj8 t636 t613 t616 t617 t618 t619 t620 t621).bind fun bt641 => (if t637 = true then (if bt641.2 = true then (if bt641.1 = true then (laws_FnShelf.j1 kj8 l1) else (some false)) else (some false)) else (some false))) else (laws_FnShelf.j1 kj8 l1)) = some r := by rw [if_neg (show ¬ (false = true) by decide)] at H; exact H
     clear H; have H := H1; clear H1; have HC45 := zA H; clear H; go_upto_if 106 with (fail)
     go_cut [] (fun wc => ∃ (kq : Nat), Aside0 (laws_FnShelf.j1 kq l1 = some r) ∧ Aside0 (kq ≤ kj8) ∧ Aside0 (wc.heap[gb625]? = some (.cells #[.string t616, .string t617, .string t618, .string t619, .bool t620] 40 (0, 0))) ∧ Aside0 (wc.heap[gb635]? = some (.cells #[.string t626, .string t627, .string t628, .string t629, .bool t630] 40 (0, 0))) ∧ Aside0 (Below w.heap.size w wc))
     case first =>
      have H := HC45.out; clear HC45
      by_cases c46 : t624 = true
      ·subst c46
       have H1 : ((impl_CheckSlot.f kj8 t636 t613 t616 t617 t618 t619 t620 t621).bind fun bt641 => (if t637 = true then (if bt641.2 = true then (if bt641.1 = true then (laws_FnShelf.j1 kj8 l1) else (some false)) else (some false)) else (some false))) = some r := by rw [if_pos rfl] at H; exact H
       clear H; have H := H1; clear H1; replace H := zAF H; obtain ⟨⟨t641, t642⟩, A470, H⟩ := H; replace H : (if t637 = true then (if t642 = true then (if t641 = true then (laws_FnShelf.j1 kj8 l1) else (some false)) else (some false)) else (some false)) = some r := H; have A47 := zA A470; clear A470
       by_cases c48 : t637 = true
       ·subst c48
        have H1 : (if t642 = true then (if t641 = true then (laws_FnShelf.j1 kj8 l1) else (some false)) else (some false)) = some r := by rw [if_pos rfl] at H; exact H
        clear H; have H := H1; clear H1
        by_cases c49 : t642 = true
        ·subst c49
         have H1 : (if t641 = true then (laws_FnShelf.j1 kj8 l1) else (some false)) = some r := by rw [if_pos rfl] at H; exact H
         clear H; have H := H1; clear H1
         by_cases c50 : t641 = true
         ·subst c50
          have H1 : (laws_FnShelf.j1 kj8 l1) = some r := by rw [if_pos rfl] at H; exact H
          clear H; have H := H1; clear H1
          as_aux_lemma =>
           have H' := zA H; clear H; have hnb51 := NB625_635.out; have hnc51 := NB635_625.out; have hcz52_0 : wc.cell? ⟨gb625, 0, none⟩ = some (.string t616) := (zP BK625.out 0).trans rfl; have hcz52_1 : wc.cell? ⟨gb625, 1, none⟩ = some (.string t617) := (zP BK625.out 1).trans rfl; have hcz52_2 : wc.cell? ⟨gb625, 2, none⟩ = some (.string t618) := (zP BK625.out 2).trans rfl; have hcz52_3 : wc.cell? ⟨gb625, 3, none⟩ = some (.string t619) := (zP BK625.out 3).trans rfl; have hcz52_4 : wc.cell? ⟨gb625, 4, none⟩ = some (.bool t620) := (zP BK625.out 4).trans rfl; have hfz52_0 := zO BK625.out 0; have hfz52_1 := zO BK625.out 1; have hfz52_2 := zO BK625.out 2; have hfz52_3 := zO BK625.out 3; have hfz52_4 := zO BK625.out 4; obtain ⟨Ao53, co53, eo53⟩ := Kd.R_slice HO_8.out; subst eo53; go_wp2_with (first | ((with_reducible refine yB (f := 27) rfl ?_); refine goesL_ (some 112) rfl rfl Try.func27 (by kernel_rfl) rfl #[.string t636, .int .i64 t613, .agg #[.string t616, .string t617, .string t618, .string t619, .bool t620], .slice Ao53 t621.length co53] rfl (by (try simp only [zAA, zAB, zAC]); first | done | rfl | (simp only [zZ, zY]; rfl)) ?_; (with_reducible refine (impl_CheckSlot.calls kj8 t636 t613 t616 t617 t618 t619 t620 _ _ t621 true true _ ?side1 ?side2 A47.out).mono ?_); (case side1 => repeat (first | exact (yD HO_8.out).2.2 | (with_reducible refine zT ?_ _) | (with_reducible refine zU ?_ _) | (with_reducible refine zV ?_))); (case side2 => exact (yD HO_8.out).2.1); rintro e w54 ⟨rfl, hb⟩; refine ⟨_, rfl, ?_⟩; have n0_ := zA (Kd.R_below (by (with_reducible repeat first | apply zQ | apply zR | apply zS); exact HO_8.out) hb); have n1_ := zA (yE (g := gb625) (o := .cells #[.string t616, .string t617, .string t618, .string t619, .bool t620] 40 (0, 0)) (by (with_reducible repeat (first | refine zL ?_ _ | refine zN ?_ | refine zM ?_ _)); exact BK625.out) hb); have n2_ := zA (yE (g := gb635) (o := .cells #[.string t626, .string t627, .string t628, .string t629, .bool t630] 40 (0, 0)) (by (with_reducible repeat (first | refine zL ?_ _ | refine zN ?_ | refine zM ?_ _)); exact BK635.out) hb); have n3_ := zA (zAD (by repeat (first | (with_reducible first | exact HB.out | apply zH | apply zF | apply zG | refine zI ?_ GE625.out | refine zI ?_ GE635.out) | exact HB.out)) hb); clear HO_8; clear BK625; clear BK635; clear HB; have HO_8 := n0_; have BK625 := n1_; have BK635 := n2_; have HB := n3_; clear n0_ n1_ n2_ n3_; (try clear hb))); go_meet
           case rel => exact ⟨_, H', ⟨by have := HJ8.out; first | omega | exact Nat.le_refl _⟩, ⟨by (with_reducible repeat (first | refine zL ?_ _ | refine zN ?_ | refine zM ?_ _)); exact BK625.out⟩, ⟨by (with_reducible repeat (first | refine zL ?_ _ | refine zN ?_ | refine zM ?_ _)); exact BK635.out⟩, ⟨by repeat (first | (with_reducible first | exact HB.out | apply zH | apply zF | apply zG | refine zI ?_ GE625.out | refine zI ?_ GE635.out) | exact HB.out)⟩⟩
         ·replace c50 := Bool.eq_false_iff.mpr c50
          subst c50; have H1 : (some false) = some r := by rw [if_neg (show ¬ (false = true) by decide)] at H; exact H
          clear H; have H := H1; clear H1
          as_aux_lemma =>
           obtain rfl := Option.some.inj H; have hnb55 := NB625_635.out; have hnc55 := NB635_625.out; have hcz56_0 : wc.cell? ⟨gb625, 0, none⟩ = some (.string t616) := (zP BK625.out 0).trans rfl; have hcz56_1 : wc.cell? ⟨gb625, 1, none⟩ = some (.string t617) := (zP BK625.out 1).trans rfl; have hcz56_2 : wc.cell? ⟨gb625, 2, none⟩ = some (.string t618) := (zP BK625.out 2).trans rfl; have hcz56_3 : wc.cell? ⟨gb625, 3, none⟩ = some (.string t619) := (zP BK625.out 3).trans rfl; have hcz56_4 : wc.cell? ⟨gb625, 4, none⟩ = some (.bool t620) := (zP BK625.out 4).trans rfl; have hfz56_0 := zO BK625.out 0; have hfz56_1 := zO BK625.out 1; have hfz56_2 := zO BK625.out 2; have hfz56_3 := zO BK625.out 3; have hfz56_4 := zO BK625.out 4; obtain ⟨Ao57, co57, eo57⟩ := Kd.R_slice HO_8.out; subst eo57; go_wp2_with (first | ((with_reducible refine yB (f := 27) rfl ?_); refine goesL_ (some 112) rfl rfl Try.func27 (by kernel_rfl) rfl #[.string t636, .int .i64 t613, .agg #[.string t616, .string t617, .string t618, .string t619, .bool t620], .slice Ao57 t621.length co57] rfl (by (try simp only [zAA, zAB, zAC]); first | done | rfl | (simp only [zZ, zY]; rfl)) ?_; (with_reducible refine (impl_CheckSlot.calls kj8 t636 t613 t616 t617 t618 t619 t620 _ _ t621 false true _ ?side1 ?side2 A47.out).mono ?_); (case side1 => repeat (first | exact (yD HO_8.out).2.2 | (with_reducible refine zT ?_ _) | (with_reducible refine zU ?_ _) | (with_reducible refine zV ?_))); (case side2 => exact (yD HO_8.out).2.1); rintro e w58 ⟨rfl, hb⟩; refine ⟨_, rfl, ?_⟩; have n0_ := zA (Kd.R_below (by (with_reducible repeat first | apply zQ | apply zR | apply zS); exact HO_8.out) hb); have n1_ := zA (yE (g := gb625) (o := .cells #[.string t616, .string t617, .string t618, .string t619, .bool t620] 40 (0, 0)) (by (with_reducible repeat (first | refine zL ?_ _ | refine zN ?_ | refine zM ?_ _)); exact BK625.out) hb); have n2_ := zA (yE (g := gb635) (o := .cells #[.string t626, .string t627, .string t628, .string t629, .bool t630] 40 (0, 0)) (by (with_reducible repeat (first | refine zL ?_ _ | refine zN ?_ | refine zM ?_ _)); exact BK635.out) hb); have n3_ := zA (zAD (by repeat (first | (with_reducible first | exact HB.out | apply zH | apply zF | apply zG | refine zI ?_ GE625.out | refine zI ?_ GE635.out) | exact HB.out)) hb); clear HO_8; clear BK625; clear BK635; clear HB; have HO_8 := n0_; have BK625 := n1_; have BK635 := n2_; have HB := n3_; clear n0_ n1_ n2_ n3_; (try clear hb))); go_ret; exact ⟨by first | rfl | (simp <;> rfl) | (simp [*] <;> rfl), by repeat (first | (with_reducible first | exact HB.out | apply zH | apply zF | apply zG | refine zI ?_ GE625.out | refine zI ?_ GE635.out) | exact HB.out)⟩
        ·replace c49 := Bool.eq_false_iff.mpr c49
         subst c49; have H1 : (some false) = some r := by rw [if_neg (show ¬ (false = true) by decide)] at H; exact H
         clear H; have H := H1; clear H1
         as_aux_lemma =>
          obtain rfl := Option.some.inj H; have hnb59 := NB625_635.out; have hnc59 := NB635_625.out; have hcz60_0 : wc.cell? ⟨gb625, 0, none⟩ = some (.string t616) := (zP BK625.out 0).trans rfl; have hcz60_1 : wc.cell? ⟨gb625, 1, none⟩ = some (.string t617) := (zP BK625.out 1).trans rfl; have hcz60_2 : wc.cell? ⟨gb625, 2, none⟩ = some (.string t618) := (zP BK625.out 2).trans rfl; have hcz60_3 : wc.cell? ⟨gb625, 3, none⟩ = some (.string t619) := (zP BK625.out 3).trans rfl; have hcz60_4 : wc.cell? ⟨gb625, 4, none⟩ = some (.bool t620) := (zP BK625.out 4).trans rfl; have hfz60_0 := zO BK625.out 0; have hfz60_1 := zO BK625.out 1; have hfz60_2 := zO BK625.out 2; have hfz60_3 := zO BK625.out 3; have hfz60_4 := zO BK625.out 4; obtain ⟨Ao61, co61, eo61⟩ := Kd.R_slice HO_8.out; subst eo61; go_wp2_with (first | ((with_reducible refine yB (f := 27) rfl ?_); refine goesL_ (some 112) rfl rfl Try.func27 (by kernel_rfl) rfl #[.string t636, .int .i64 t613, .agg #[.string t616, .string t617, .string t618, .string t619, .bool t620], .slice Ao61 t621.length co61] rfl (by (try simp only [zAA, zAB, zAC]); first | done | rfl | (simp only [zZ, zY]; rfl)) ?_; (with_reducible refine (impl_CheckSlot.calls kj8 t636 t613 t616 t617 t618 t619 t620 _ _ t621 t641 false _ ?side1 ?side2 A47.out).mono ?_); (case side1 => repeat (first | exact (yD HO_8.out).2.2 | (with_reducible refine zT ?_ _) | (with_reducible refine zU ?_ _) | (with_reducible refine zV ?_))); (case side2 => exact (yD HO_8.out).2.1); rintro e w62 ⟨rfl, hb⟩; refine ⟨_, rfl, ?_⟩; have n0_ := zA (Kd.R_below (by (with_reducible repeat first | apply zQ | apply zR | apply zS); exact HO_8.out) hb); have n1_ := zA (yE (g := gb625) (o := .cells #[.string t616, .string t617, .string t618, .string t619, .bool t620] 40 (0, 0)) (by (with_reducible repeat (first | refine zL ?_ _ | refine zN ?_ | refine zM ?_ _)); exact BK625.out) hb); have n2_ := zA (yE (g := gb635) (o := .cells #[.string t626, .string t627, .string t628, .string t629, .bool t630] 40 (0, 0)) (by (with_reducible repeat (first | refine zL ?_ _ | refine zN ?_ | refine zM ?_ _)); exact BK635.out) hb); have n3_ := zA (zAD (by repeat (first | (with_reducible first | exact HB.out | apply zH | apply zF | apply zG | refine zI ?_ GE625.out | refine zI ?_ GE635.out) | exact HB.out)) hb); clear HO_8; clear BK625; clear BK635; clear HB; have HO_8 := n0_; have BK625 := n1_; have BK635 := n2_; have HB := n3_; clear n0_ n1_ n2_ n3_; (try clear hb))); go_ret; exact ⟨by first | rfl | (simp <;> rfl) | (simp [*] <;> rfl), by repeat (first | (with_reducible first | exact HB.out | apply zH | apply zF | apply zG | refine zI ?_ GE625.out | refine zI ?_ GE635.out) | exact HB.out)⟩
       ·replace c48 := Bool.eq_false_iff.mpr c48
        subst c48; have H1 : (some false) = some r := by rw [if_neg (show ¬ (false = true) by decide)] at H; exact H
        clear H; have H := H1; clear H1
        as_aux_lemma =>
         obtain rfl := Option.some.inj H; have hnb63 := NB625_635.out; have hnc63 := NB635_625.out; have hcz64_0 : wc.cell? ⟨gb625, 0, none⟩ = some (.string t616) := (zP BK625.out 0).trans rfl; have hcz64_1 : wc.cell? ⟨gb625, 1, none⟩ = some (.string t617) := (zP BK625.out 1).trans rfl; have hcz64_2 : wc.cell? ⟨gb625, 2, none⟩ = some (.string t618) := (zP BK625.out 2).trans rfl; have hcz64_3 : wc.cell? ⟨gb625, 3, none⟩ = some (.string t619) := (zP BK625.out 3).trans rfl; have hcz64_4 : wc.cell? ⟨gb625, 4, none⟩ = some (.bool t620) := (zP BK625.out 4).trans rfl; have hfz64_0 := zO BK625.out 0; have hfz64_1 := zO BK625.out 1; have hfz64_2 := zO BK625.out 2; have hfz64_3 := zO BK625.out 3; have hfz64_4 := zO BK625.out 4; obtain ⟨Ao65, co65, eo65⟩ := Kd.R_slice HO_8.out; subst eo65; go_wp2_with (first | ((with_reducible refine yB (f := 27) rfl ?_); refine goesL_ (some 112) rfl rfl Try.func27 (by kernel_rfl) rfl #[.string t636, .int .i64 t613, .agg #[.string t616, .string t617, .string t618, .string t619, .bool t620], .slice Ao65 t621.length co65] rfl (by (try simp only [zAA, zAB, zAC]); first | done | rfl | (simp only [zZ, zY]; rfl)) ?_; (with_reducible refine (impl_CheckSlot.calls kj8 t636 t613 t616 t617 t618 t619 t620 _ _ t621 t641 t642 _ ?side1 ?side2 A47.out).mono ?_); (case side1 => repeat (first | exact (yD HO_8.out).2.2 | (with_reducible refine zT ?_ _) | (with_reducible refine zU ?_ _) | (with_reducible refine zV ?_))); (case side2 => exact (yD HO_8.out).2.1); rintro e w66 ⟨rfl, hb⟩; refine ⟨_, rfl, ?_⟩; have n0_ := zA (Kd.R_below (by (with_reducible repeat first | apply zQ | apply zR | apply zS); exact HO_8.out) hb); have n1_ := zA (yE (g := gb625) (o := .cells #[.string t616, .string t617, .string t618, .string t619, .bool t620] 40 (0, 0)) (by (with_reducible repeat (first | refine zL ?_ _ | refine zN ?_ | refine zM ?_ _)); exact BK625.out) hb); have n2_ := zA (yE (g := gb635) (o := .cells #[.string t626, .string t627, .string t628, .string t629, .bool t630] 40 (0, 0)) (by (with_reducible repeat (first | refine zL ?_ _ | refine zN ?_ | refine zM ?_ _)); exact BK635.out) hb); have n3_ := zA (zAD (by repeat (first | (with_reducible first | exact HB.out | apply zH | apply zF | apply zG | refine zI ?_ GE625.out | refine zI ?_ GE635.out) | exact HB.out)) hb); clear HO_8; clear BK625; clear BK635; clear HB; have HO_8 := n0_; have BK625 := n1_; have BK635 := n2_; have HB := n3_; clear n0_ n1_ n2_ n3_; (try clear hb))); go_ret; exact ⟨by first | rfl | (simp <;> rfl) | (simp [*] <;> rfl), by repeat (first | (with_reducible first | exact HB.out | apply zH | apply zF | apply zG | refine zI ?_ GE625.out | refine zI ?_ GE635.out) | exact HB.out)⟩
      ·replace c46 := Bool.eq_false_iff.mpr c46
       subst c46; have H1 : (laws_FnShelf.j1 kj8 l1) = some r := by rw [if_neg (show ¬ (false = true) by decide)] at H; exact H
       clear H; have H := H1; clear H1
       as_aux_lemma =>
        have H' := zA H; clear H; go_wp2; go_meet
        case rel => exact ⟨_, H', ⟨by have := HJ8.out; first | omega | exact Nat.le_refl _⟩, ⟨by (with_reducible repeat (first | refine zL ?_ _ | refine zN ?_ | refine zM ?_ _)); exact BK625.out⟩, ⟨by (with_reducible repeat (first | refine zL ?_ _ | refine zN ?_ | refine zM ?_ _)); exact BK635.out⟩, ⟨by repeat (first | (with_reducible first | exact HB.out | apply zH | apply zF | apply zG | refine zI ?_ GE625.out | refine zI ?_ GE635.out) | exact HB.out)⟩⟩
     case rest =>
      clear HC45
      try clear c1
      try clear c2
      try clear p2
      try clear c3
      try clear c3b0
      try clear c4
      try clear c5
      try clear c6
      try clear p6
      try clear c17
      try clear c21
      try clear c21b0
      try clear c21b1
      try clear c21b2
      try clear c22
      try clear c22b0
      try clear c23
      try clear c24
      try clear c25
      try clear c27
      try clear c28
      try clear c28b0
      try clear c28b1
      try clear c28b2
      try clear c29
      try clear c34
      try clear c39
      try clear c44
      try clear c46
      try clear c48
      try clear c49
      try clear c50
      try clear c51
      try clear c55
      try clear c59
      try clear c63
      try clear p64
      try clear hcz14_0
      try clear hcz14_1
      try clear hcz14_2
      try clear hcz14_3
      try clear hcz14_4
      try clear hcz18_0
      try clear hcz18_1
      try clear hcz18_2
      try clear hcz18_3
      try clear hcz18_4
      try clear hcz24_0
      try clear hcz24_1
      try clear hcz24_2
      try clear hcz24_3
      try clear hcz24_4
      try clear hcz25_0
      try clear hcz25_1
      try clear hcz25_2
      try clear hcz25_3
      try clear hcz25_4
      try clear hcz30_0
      try clear hcz30_1
      try clear hcz30_2
      try clear hcz30_3
      try clear hcz30_4
      try clear hcz31_0
      try clear hcz31_1
      try clear hcz31_2
      try clear hcz31_3
      try clear hcz31_4
      try clear hcz35_0
      try clear hcz35_1
      try clear hcz35_2
      try clear hcz35_3
      try clear hcz35_4
      try clear hcz36_0
      try clear hcz36_1
      try clear hcz36_2
      try clear hcz36_3
      try clear hcz36_4
      try clear hcz40_0
      try clear hcz40_1
      try clear hcz40_2
      try clear hcz40_3
      try clear hcz40_4
      try clear hcz41_0
      try clear hcz41_1
      try clear hcz41_2
      try clear hcz41_3
      try clear hcz41_4
      try clear hcz52_0
      try clear hcz52_1
      try clear hcz52_2
      try clear hcz52_3
      try clear hcz52_4
      try clear hcz56_0
      try clear hcz56_1
      try clear hcz56_2
      try clear hcz56_3
      try clear hcz56_4
      try clear hcz60_0
      try clear hcz60_1
      try clear hcz60_2
      try clear hcz60_3
      try clear hcz60_4
      try clear hcz64_0
      try clear hcz64_1
      try clear hcz64_2
      try clear hcz64_3
      try clear hcz64_4
      try clear hfz14_0
      try clear hfz14_1
      try clear hfz14_2
      try clear hfz14_3
      try clear hfz14_4
      try clear hfz18_0
      try clear hfz18_1
      try clear hfz18_2
      try clear hfz18_3
      try clear hfz18_4
      try clear hfz24_0
      try clear hfz24_1
      try clear hfz24_2
      try clear hfz24_3
      try clear hfz24_4
      try clear hfz25_0
      try clear hfz25_1
      try clear hfz25_2
      try clear hfz25_3
      try clear hfz25_4
      try clear hfz30_0
      try clear hfz30_1
      try clear hfz30_2
      try clear hfz30_3
      try clear hfz30_4
      try clear hfz31_0
      try clear hfz31_1
      try clear hfz31_2
      try clear hfz31_3
      try clear hfz31_4
      try clear hfz35_0
      try clear hfz35_1
      try clear hfz35_2
      try clear hfz35_3
      try clear hfz35_4
      try clear hfz36_0
      try clear hfz36_1
      try clear hfz36_2
      try clear hfz36_3
      try clear hfz36_4
      try clear hfz40_0
      try clear hfz40_1
      try clear hfz40_2
      try clear hfz40_3
      try clear hfz40_4
      try clear hfz41_0
      try clear hfz41_1
      try clear hfz41_2
      try clear hfz41_3
      try clear hfz41_4
      try clear hfz52_0
      try clear hfz52_1
      try clear hfz52_2
      try clear hfz52_3
      try clear hfz52_4
      try clear hfz56_0
      try clear hfz56_1
      try clear hfz56_2
      try clear hfz56_3
      try clear hfz56_4
      try clear hfz60_0
      try clear hfz60_1
      try clear hfz60_2
      try clear hfz60_3
      try clear hfz60_4
      try clear hfz64_0
      try clear hfz64_1
      try clear hfz64_2
      try clear hfz64_3
      try clear hfz64_4
      try clear p2
      try clear p6
      obtain ⟨kq, HA, HJ44, BK625, BK635, HB⟩ := hcut
      cases kq with
      | zero => exact absurd HA.out (by simp [laws_FnShelf.j1])
      | succ kj44 =>
       have H := HA.out; clear HA; simp only [laws_FnShelf.j1] at H; replace H := zAF H; obtain ⟨⟨t643, t644, t645, t646, t647, t648, t649, t650⟩, A670, H⟩ := H; replace H : ((impl_CheckSlot.f kj44 t643 t644 t645 t646 t647 t648 t649 t650).bind fun bt654 => ((spec_CheckSlot.f kj44 t643 t644 t645 t646 t647 t648 t649 t650).bind fun bt656 => ((spec_DrawPutSlot.f kj44 l1).bind fun bt658 => ((impl_PutSlot.f kj44 bt658.1 bt658.2.1 bt658.2.2.1 bt658.2.2.2).bind fun bt664 => ((spec_PutSlot.f kj44 bt658.1 bt658.2.1 bt658.2.2.1 bt658.2.2.2).bind fun bt668 => ((spec_DrawCommitOf.f l1).bind fun bt672 => ((impl_CommitOf.f kj44 bt672.1 bt672.2.1 bt672.2.2).bind fun bt675 => ((spec_CommitOf.f kj44 bt672.1 bt672.2.1 bt672.2.2).bind fun bt677 => (if (bt654.2 != bt656.2) = true then (laws_FnShelf.j2 kj44 bt658.1 bt658.2.1 bt658.2.2.1 bt658.2.2.2 bt664.1 bt664.2 true) else (if (bt654.1 != bt656.1) = true then (laws_FnShelf.j2 kj44 bt658.1 bt658.2.1 bt658.2.2.1 bt658.2.2.2 bt664.1 bt664.2 true) else (if (bt664.2 != bt668.2) = true then (laws_FnShelf.j2 kj44 bt658.1 bt658.2.1 bt658.2.2.1 bt658.2.2.2 bt664.1 bt664.2 true) else ((laws_sameSlots.f kj44 bt664.1 bt668.1).bind fun t679 => (if t679 = true then (if (bt675.2 != bt677.2) = true then (laws_FnShelf.j2 kj44 bt658.1 bt658.2.1 bt658.2.2.1 bt658.2.2.2 bt664.1 bt664.2 true) else (laws_FnShelf.j2 kj44 bt658.1 bt658.2.1 bt658.2.2.1 bt658.2.2.2 bt664.1 bt664.2 (bt675.1.toList != bt677.1.toList))) else (laws_FnShelf.j2 kj44 bt658.1 bt658.2.1 bt658.2.2.1 bt658.2.2.2 bt664.1 bt664.2 true)))))))))))))) = some r := H; have A67 := zA A670; clear A670; replace H := zAF H; obtain ⟨⟨t654, t655⟩, A680, H⟩ := H; replace H : ((spec_CheckSlot.f kj44 t643 t644 t645 t646 t647 t648 t649 t650).bind fun bt656 => ((spec_DrawPutSlot.f kj44 l1).bind fun bt658 => ((impl_PutSlot.f kj44 bt658.1 bt658.2.1 bt658.2.2.1 bt658.2.2.2).bind fun bt664 => ((spec_PutSlot.f kj44 bt658.1 bt658.2.1 bt658.2.2.1 bt658.2.2.2).bind fun bt668 => ((spec_DrawCommitOf.f l1).bind fun bt672 => ((impl_CommitOf.f kj44 bt672.1 bt672.2.1 bt672.2.2).bind fun bt675 => ((spec_CommitOf.f kj44 bt672.1 bt672.2.1 bt672.2.2).bind fun bt677 => (if (t655 != bt656.2) = true then (laws_FnShelf.j2 kj44 bt658.1 bt658.2.1 bt658.2.2.1 bt658.2.2.2 bt664.1 bt664.2 true) else (if (t654 != bt656.1) = true then (laws_FnShelf.j2 kj44 bt658.1 bt658.2.1 bt658.2.2.1 bt658.2.2.2 bt664.1 bt664.2 true) else (if (bt664.2 != bt668.2) = true then (laws_FnShelf.j2 kj44 bt658.1 bt658.2.1 bt658.2.2.1 bt658.2.2.2 bt664.1 bt664.2 true) else ((laws_sameSlots.f kj44 bt664.1 bt668.1).bind fun t679 => (if t679 = true then (if (bt675.2 != bt677.2) = true then (laws_FnShelf.j2 kj44 bt658.1 bt658.2.1 bt658.2.2.1 bt658.2.2.2 bt664.1 bt664.2 true) else (laws_FnShelf.j2 kj44 bt658.1 bt658.2.1 bt658.2.2.1 bt658.2.2.2 bt664.1 bt664.2 (bt675.1.toList != bt677.1.toList))) else (laws_FnShelf.j2 kj44 bt658.1 bt658.2.1 bt658.2.2.1 bt658.2.2.2 bt664.1 bt664.2 true))))))))))))) = some r := H; have A68 := zA A680; clear A680; replace H := zAF H; obtain ⟨⟨t656, t657⟩, A690, H⟩ := H; replace H : ((spec_DrawPutSlot.f kj44 l1).bind fun bt658 => ((impl_PutSlot.f kj44 bt658.1 bt658.2.1 bt658.2.2.1 bt658.2.2.2).bind fun bt664 => ((spec_PutSlot.f kj44 bt658.1 bt658.2.1 bt658.2.2.1 bt658.2.2.2).bind fun bt668 => ((spec_DrawCommitOf.f l1).bind fun bt672 => ((impl_CommitOf.f kj44 bt672.1 bt672.2.1 bt672.2.2).bind fun bt675 => ((spec_CommitOf.f kj44 bt672.1 bt672.2.1 bt672.2.2).bind fun bt677 => (if (t655 != t657) = true then (laws_FnShelf.j2 kj44 bt658.1 bt658.2.1 bt658.2.2.1 bt658.2.2.2 bt664.1 bt664.2 true) else (if (t654 != t656) = true then (laws_FnShelf.j2 kj44 bt658.1 bt658.2.1 bt658.2.2.1 bt658.2.2.2 bt664.1 bt664.2 true) else (if (bt664.2 != bt668.2) = true then (laws_FnShelf.j2 kj44 bt658.1 bt658.2.1 bt658.2.2.1 bt658.2.2.2 bt664.1 bt664.2 true) else ((laws_sameSlots.f kj44 bt664.1 bt668.1).bind fun t679 => (if t679 = true then (if (bt675.2 != bt677.2) = true then (laws_FnShelf.j2 kj44 bt658.1 bt658.2.1 bt658.2.2.1 bt658.2.2.2 bt664.1 bt664.2 true) else (laws_FnShelf.j2 kj44 bt658.1 bt658.2.1 bt658.2.2.1 bt658.2.2.2 bt664.1 bt664.2 (bt675.1.toList != bt677.1.toList))) else (laws_FnShelf.j2 kj44 bt658.1 bt658.2.1 bt658.2.2.1 bt658.2.2.2 bt664.1 bt664.2 true)))))))))))) = some r := H; have A69 := zA A690; clear A690; replace H := zAF H; obtain ⟨⟨t658, t659, t660, t661⟩, A700, H⟩ := H; replace H : ((impl_PutSlot.f kj44 t658 t659 t660 t661).bind fun bt664 => ((spec_PutSlot.f kj44 t658 t659 t660 t661).bind fun bt668 => ((spec_DrawCommitOf.f l1).bind fun bt672 => ((impl_CommitOf.f kj44 bt672.1 bt672.2.1 bt672.2.2).bind fun bt675 => ((spec_CommitOf.f kj44 bt672.1 bt672.2.1 bt672.2.2).bind fun bt677 => (if (t655 != t657) = true then (laws_FnShelf.j2 kj44 t658 t659 t660 t661 bt664.1 bt664.2 true) else (if (t654 != t656) = true then (laws_FnShelf.j2 kj44 t658 t659 t660 t661 bt664.1 bt664.2 true) else (if (bt664.2 != bt668.2) = true then (laws_FnShelf.j2 kj44 t658 t659 t660 t661 bt664.1 bt664.2 true) else ((laws_sameSlots.f kj44 bt664.1 bt668.1).bind fun t679 => (if t679 = true then (if (bt675.2 != bt677.2) = true then (laws_FnShelf.j2 kj44 t658 t659 t660 t661 bt664.1 bt664.2 true) else (laws_FnShelf.j2 kj44 t658 t659 t660 t661 bt664.1 bt664.2 (bt675.1.toList != bt677.1.toList))) else (laws_FnShelf.j2 kj44 t658 t659 t660 t661 bt664.1 bt664.2 true))))))))))) = some r := H; have A70 := zA A700; clear A700; replace H := zAF H; obtain ⟨⟨t664, t665⟩, A710, H⟩ := H; replace H : ((spec_PutSlot.f kj44 t658 t659 t660 t661).bind fun bt668 => ((spec_DrawCommitOf.f l1).bind fun bt672 => ((impl_CommitOf.f kj44 bt672.1 bt672.2.1 bt672.2.2).bind fun bt675 => ((spec_CommitOf.f kj44 bt672.1 bt672.2.1 bt672.2.2).bind fun bt677 => (if (t655 != t657) = true then (laws_FnShelf.j2 kj44 t658 t659 t660 t661 t664 t665 true) else (if (t654 != t656) = true then (laws_FnShelf.j2 kj44 t658 t659 t660 t661 t664 t665 true) else (if (t665 != bt668.2) = true then (laws_FnShelf.j2 kj44 t658 t659 t660 t661 t664 t665 true) else ((laws_sameSlots.f kj44 t664 bt668.1).bind fun t679 => (if t679 = true then (if (bt675.2 != bt677.2) = true then (laws_FnShelf.j2 kj44 t658 t659 t660 t661 t664 t665 true) else (laws_FnShelf.j2 kj44 t658 t659 t660 t661 t664 t665 (bt675.1.toList != bt677.1.toList))) else (laws_FnShelf.j2 kj44 t658 t659 t660 t661 t664 t665 true)))))))))) = some r := H
       have A71 := zA A710; clear A710; replace H := zAF H; obtain ⟨⟨t668, t669⟩, A720, H⟩ := H; replace H : ((spec_DrawCommitOf.f l1).bind fun bt672 => ((impl_CommitOf.f kj44 bt672.1 bt672.2.1 bt672.2.2).bind fun bt675 => ((spec_CommitOf.f kj44 bt672.1 bt672.2.1 bt672.2.2).bind fun bt677 => (if (t655 != t657) = true then (laws_FnShelf.j2 kj44 t658 t659 t660 t661 t664 t665 true) else (if (t654 != t656) = true then (laws_FnShelf.j2 kj44 t658 t659 t660 t661 t664 t665 true) else (if (t665 != t669) = true then (laws_FnShelf.j2 kj44 t658 t659 t660 t661 t664 t665 true) else ((laws_sameSlots.f kj44 t664 t668).bind fun t679 => (if t679 = true then (if (bt675.2 != bt677.2) = true then (laws_FnShelf.j2 kj44 t658 t659 t660 t661 t664 t665 true) else (laws_FnShelf.j2 kj44 t658 t659 t660 t661 t664 t665 (bt675.1.toList != bt677.1.toList))) else (laws_FnShelf.j2 kj44 t658 t659 t660 t661 t664 t665 true))))))))) = some r := H; have A72 := zA A720; clear A720; replace H := zAF H; obtain ⟨⟨t672, t673, t674⟩, A730, H⟩ := H; replace H : ((impl_CommitOf.f kj44 t672 t673 t674).bind fun bt675 => ((spec_CommitOf.f kj44 t672 t673 t674).bind fun bt677 => (if (t655 != t657) = true then (laws_FnShelf.j2 kj44 t658 t659 t660 t661 t664 t665 true) else (if (t654 != t656) = true then (laws_FnShelf.j2 kj44 t658 t659 t660 t661 t664 t665 true) else (if (t665 != t669) = true then (laws_FnShelf.j2 kj44 t658 t659 t660 t661 t664 t665 true) else ((laws_sameSlots.f kj44 t664 t668).bind fun t679 => (if t679 = true then (if (bt675.2 != bt677.2) = true then (laws_FnShelf.j2 kj44 t658 t659 t660 t661 t664 t665 true) else (laws_FnShelf.j2 kj44 t658 t659 t660 t661 t664 t665 (bt675.1.toList != bt677.1.toList))) else (laws_FnShelf.j2 kj44 t658 t659 t660 t661 t664 t665 true)))))))) = some r := H; have A73 := zA A730; clear A730; replace H := zAF H; obtain ⟨⟨t675, t676⟩, A740, H⟩ := H; replace H : ((spec_CommitOf.f kj44 t672 t673 t674).bind fun bt677 => (if (t655 != t657) = true then (laws_FnShelf.j2 kj44 t658 t659 t660 t661 t664 t665 true) else (if (t654 != t656) = true then (laws_FnShelf.j2 kj44 t658 t659 t660 t661 t664 t665 true) else (if (t665 != t669) = true then (laws_FnShelf.j2 kj44 t658 t659 t660 t661 t664 t665 true) else ((laws_sameSlots.f kj44 t664 t668).bind fun t679 => (if t679 = true then (if (t676 != bt677.2) = true then (laws_FnShelf.j2 kj44 t658 t659 t660 t661 t664 t665 true) else (laws_FnShelf.j2 kj44 t658 t659 t660 t661 t664 t665 (t675.toList != bt677.1.toList))) else (laws_FnShelf.j2 kj44 t658 t659 t660 t661 t664 t665 true))))))) = some r := H; have A74 := zA A740; clear A740; replace H := zAF H; obtain ⟨⟨t677, t678⟩, A750, H⟩ := H; replace H : (if (t655 != t657) = true then (laws_FnShelf.j2 kj44 t658 t659 t660 t661 t664 t665 true) else (if (t654 != t656) = true then (laws_FnShelf.j2 kj44 t658 t659 t660 t661 t664 t665 true) else (if (t665 != t669) = true then (laws_FnShelf.j2 kj44 t658 t659 t660 t661 t664 t665 true) else ((laws_sameSlots.f kj44 t664 t668).bind fun t679 => (if t679 = true then (if (t676 != t678) = true then (laws_FnShelf.j2 kj44 t658 t659 t660 t661 t664 t665 true) else (laws_FnShelf.j2 kj44 t658 t659 t660 t661 t664 t665 (t675.toList != t677.toList))) else (laws_FnShelf.j2 kj44 t658 t659 t660 t661 t664 t665 true)))))) = some r := H; have A75 := zA A750; clear A750; have HC76 := zA H; clear H; go_upto_region 23 with (first | ((with_reducible refine yB (f := 28) rfl ?_); refine goesL_ (some 127) rfl rfl Try.func28 (by kernel_rfl) rfl #[.slice A1 l1.length c1] rfl (by (try simp only [zAA, zAB, zAC]); first | done | rfl | (simp only [zZ, zY]; rfl)) ?_; (with_reducible refine (spec_DrawCheckSlot.calls kj44 _ _ l1 t643 t644 t645 t646 t647 t648 t649 t650 _ ?side1 ?side2 A67.out).mono ?_); (case side1 => repeat (first | exact (Kd.C_below HR1.out HB.out) | (with_reducible refine zT ?_ _) | (with_reducible refine zU ?_ _) | (with_reducible refine zV ?_))); (case side2 => exact HC1.out); rintro e w77 ⟨v651, rfl, ho0, hb⟩; refine ⟨_, rfl, ?_⟩; have n0_ := zA (Kd.R_lower ho0 (zAE (by repeat (first | (with_reducible first | exact HB.out | apply zH | apply zF | apply zG | refine zI ?_ GE625.out | refine zI ?_ GE635.out) | exact HB.out)))); have n1_ := zA (yE (g := gb625) (o := .cells #[.string t616, .string t617, .string t618, .string t619, .bool t620] 40 (0, 0)) (by (with_reducible repeat (first | refine zL ?_ _ | refine zN ?_ | refine zM ?_ _)); exact BK625.out) hb); have n2_ := zA (yE (g := gb635) (o := .cells #[.string t626, .string t627, .string t628, .string t629, .bool t630] 40 (0, 0)) (by (with_reducible repeat (first | refine zL ?_ _ | refine zN ?_ | refine zM ?_ _)); exact BK635.out) hb); have n3_ := zA (zAD (by repeat (first | (with_reducible first | exact HB.out | apply zH | apply zF | apply zG | refine zI ?_ GE625.out | refine zI ?_ GE635.out) | exact HB.out)) hb); clear BK625; clear BK635; clear HB; have HO652 := n0_; have BK625 := n1_; have BK635 := n2_; have HB := n3_; clear n0_ n1_ n2_ n3_; (try clear hb); (try clear ho0)) | ((with_reducible refine gate_dst (N := 21) rfl ?_); (try (refine gate_guard (by rfl) ?_; dsimp only)); refine box_event ?hg (N := 21) ?hd (cs := #[.string (⟨#[]⟩ : ByteArray), .string (⟨#[]⟩ : ByteArray), .string (⟨#[]⟩ : ByteArray), .string (⟨#[]⟩ : ByteArray), .bool false]) (t := 40) ?hr ?_; (case hd => rfl); (case hg => rfl); (case hr => first | (go_simp; done) | (go_simp; rfl)); intro gb653 hg w78 hbox hb; have n0_ := zA (Kd.R_below (by (with_reducible repeat first | apply zQ | apply zR | apply zS); exact HO652.out) hb); have n1_ := zA (yE (g := gb625) (o := .cells #[.string t616, .string t617, .string t618, .string t619, .bool t620] 40 (0, 0)) (by (with_reducible repeat (first | refine zL ?_ _ | refine zN ?_ | refine zM ?_ _)); exact BK625.out) hb); have n2_ := zA (yE (g := gb635) (o := .cells #[.string t626, .string t627, .string t628, .string t629, .bool t630] 40 (0, 0)) (by (with_reducible repeat (first | refine zL ?_ _ | refine zN ?_ | refine zM ?_ _)); exact BK635.out) hb); have n3_ := zA (zAD (by repeat (first | (with_reducible first | exact HB.out | apply zH | apply zF | apply zG | refine zI ?_ GE625.out | refine zI ?_ GE635.out) | exact HB.out)) hb); have n4_ := zA (hbox); have n5_ := zA ((by rw [hg]; exact (zAE (by repeat (first | (with_reducible first | exact HB.out | apply zH | apply zF | apply zG | refine zI ?_ GE625.out | refine zI ?_ GE635.out) | exact HB.out))) : w.heap.size ≤ gb653)); have n6_ := zA ((by rw [hg]; exact (zAE (by repeat (first | (with_reducible first | exact HB.out | apply zH | apply zF | apply zG | refine zI ?_ GE625.out | refine zI ?_ GE635.out) | exact HB.out))) : w.heap.size ≤ gb653)); have n7_ := zA ((by rw [hg]; exact zK (blk_lt (g := gb625) (o := .cells #[.string t616, .string t617, .string t618, .string t619, .bool t620] 40 (0, 0)) (by (with_reducible repeat (first | refine zL ?_ _ | refine zN ?_ | refine zM ?_ _)); exact BK625.out)) : gb625 ≠ gb653)); have n8_ := zA ((by rw [hg]; exact Nat.ne_of_gt (blk_lt (g := gb625) (o := .cells #[.string t616, .string t617, .string t618, .string t619, .bool t620] 40 (0, 0)) (by (with_reducible repeat (first | refine zL ?_ _ | refine zN ?_ | refine zM ?_ _)); exact BK625.out)) : gb653 ≠ gb625)); have n9_ := zA ((by rw [hg]; exact zK (blk_lt (g := gb635) (o := .cells #[.string t626, .string t627, .string t628, .string t629, .bool t630] 40 (0, 0)) (by (with_reducible repeat (first | refine zL ?_ _ | refine zN ?_ | refine zM ?_ _)); exact BK635.out)) : gb635 ≠ gb653)); have n10_ := zA ((by rw [hg]; exact Nat.ne_of_gt (blk_lt (g := gb635) (o := .cells #[.string t626, .string t627, .string t628, .string t629, .bool t630] 40 (0, 0)) (by (with_reducible repeat (first | refine zL ?_ _ | refine zN ?_ | refine zM ?_ _)); exact BK635.out)) : gb653 ≠ gb635)); clear HO652; clear BK625; clear BK635; clear HB; have HO652 := n0_; have BK625 := n1_; have BK635 := n2_; have HB := n3_; have BK653 := n4_; have GW653 := n5_; have GE653 := n6_; have NB625_653 := n7_; have NB653_625 := n8_; have NB635_653 := n9_; have NB653_635 := n10_; clear n0_ n1_ n2_ n3_ n4_ n5_ n6_ n7_ n8_ n9_ n10_; clear hb hbox hg; have hnb79 := NB653_625.out; have hnc79 := NB625_653.out; have hnb80 := NB653_635.out; have hnc80 := NB635_653.out; have hcz81_0 : w78.cell? ⟨gb653, 0, none⟩ = some (.string (⟨#[]⟩ : ByteArray)) := (zP BK653.out 0).trans rfl; have hcz81_1 : w78.cell? ⟨gb653, 1, none⟩ = some (.string (⟨#[]⟩ : ByteArray)) := (zP BK653.out 1).trans rfl; have hcz81_2 : w78.cell? ⟨gb653, 2, none⟩ = some (.string (⟨#[]⟩ : ByteArray)) := (zP BK653.out 2).trans rfl; have hcz81_3 : w78.cell? ⟨gb653, 3, none⟩ = some (.string (⟨#[]⟩ : ByteArray)) := (zP BK653.out 3).trans rfl; have hcz81_4 : w78.cell? ⟨gb653, 4, none⟩ = some (.bool false) := (zP BK653.out 4).trans rfl; have hfz81_0 := zO BK653.out 0; have hfz81_1 := zO BK653.out 1; have hfz81_2 := zO BK653.out 2; have hfz81_3 := zO BK653.out 3; have hfz81_4 := zO BK653.out 4; obtain ⟨Ao82, co82, eo82⟩ := Kd.R_slice HO652.out; subst eo82) | ((with_reducible refine yB (f := 27) rfl ?_); refine goesL_ (some 137) rfl rfl Try.func27 (by kernel_rfl) rfl #[.string t643, .int .i64 t644, .agg #[.string t645, .string t646, .string t647, .string t648, .bool t649], .slice Ao82 t650.length co82] rfl (by (try simp only [zAA, zAB, zAC]); first | done | rfl | (simp only [zZ, zY]; rfl)) ?_; (with_reducible refine (impl_CheckSlot.calls kj44 t643 t644 t645 t646 t647 t648 t649 _ _ t650 t654 t655 _ ?side1 ?side2 A68.out).mono ?_); (case side1 => refine (yD (e := 9) (base := w.heap.size) (ok := fun k_ => True) (n := t650.length) (c := co82) ?_).2.2; exact (by (with_reducible repeat first | apply zQ | apply zR | apply zS); exact (yC (Kd.R_far (p := ⟨gb653, 4, none⟩) (Kd.R_far (p := ⟨gb653, 3, none⟩) (Kd.R_far (p := ⟨gb653, 2, none⟩) (Kd.R_far (p := ⟨gb653, 1, none⟩) (Kd.R_far (p := ⟨gb653, 0, none⟩) (Kd.R_types HO652.out BK653.out (by decide)) (fun _ hk => hk.2) (.string t645)) (fun _ hk => hk.2) (.string t646)) (fun _ hk => hk.2) (.string t647)) (fun _ hk => hk.2) (.string t648)) (fun _ hk => hk.2) (.bool t649)) (fun _ h_ => h_.1)))); (case side2 => exact (yD HO652.out).2.1); rintro e w83 ⟨rfl, hb⟩; refine ⟨_, rfl, ?_⟩; have n0_ := zA (Kd.R_below (by (with_reducible repeat first | apply zQ | apply zR | apply zS); exact (yC (Kd.R_far (p := ⟨gb653, 4, none⟩) (Kd.R_far (p := ⟨gb653, 3, none⟩) (Kd.R_far (p := ⟨gb653, 2, none⟩) (Kd.R_far (p := ⟨gb653, 1, none⟩) (Kd.R_far (p := ⟨gb653, 0, none⟩) (Kd.R_types HO652.out BK653.out (by decide)) (fun _ hk => hk.2) (.string t645)) (fun _ hk => hk.2) (.string t646)) (fun _ hk => hk.2) (.string t647)) (fun _ hk => hk.2) (.string t648)) (fun _ hk => hk.2) (.bool t649)) (fun _ h_ => h_.1))) hb); have n1_ := zA (yE (g := gb625) (o := .cells #[.string t616, .string t617, .string t618, .string t619, .bool t620] 40 (0, 0)) (by (with_reducible repeat (first | refine zL ?_ _ | refine zN ?_ | refine zM ?_ _)); refine blk_far ?_ NB625_653.out _; (with_reducible repeat (first | refine zL ?_ _ | refine zN ?_ | refine zM ?_ _)); refine blk_far ?_ NB625_653.out _; (with_reducible repeat (first | refine zL ?_ _ | refine zN ?_ | refine zM ?_ _)); refine blk_far ?_ NB625_653.out _; (with_reducible repeat (first | refine zL ?_ _ | refine zN ?_ | refine zM ?_ _)); refine blk_far ?_ NB625_653.out _; (with_reducible repeat (first | refine zL ?_ _ | refine zN ?_ | refine zM ?_ _)); refine blk_far ?_ NB625_653.out _; (with_reducible repeat (first | refine zL ?_ _ | refine zN ?_ | refine zM ?_ _)); exact BK625.out) hb); have n2_ := zA (yE (g := gb635) (o := .cells #[.string t626, .string t627, .string t628, .string t629, .bool t630] 40 (0, 0)) (by (with_reducible repeat (first | refine zL ?_ _ | refine zN ?_ | refine zM ?_ _)); refine blk_far ?_ NB635_653.out _; (with_reducible repeat (first | refine zL ?_ _ | refine zN ?_ | refine zM ?_ _)); refine blk_far ?_ NB635_653.out _; (with_reducible repeat (first | refine zL ?_ _ | refine zN ?_ | refine zM ?_ _)); refine blk_far ?_ NB635_653.out _; (with_reducible repeat (first | refine zL ?_ _ | refine zN ?_ | refine zM ?_ _)); refine blk_far ?_ NB635_653.out _; (with_reducible repeat (first | refine zL ?_ _ | refine zN ?_ | refine zM ?_ _)); refine blk_far ?_ NB635_653.out _; (with_reducible repeat (first | refine zL ?_ _ | refine zN ?_ | refine zM ?_ _)); exact BK635.out) hb); have n3_ := zA (yE (g := gb653) (o := .cells #[.string t645, .string t646, .string t647, .string t648, .bool t649] 40 (0, 0)) (by (with_reducible repeat (first | refine zL ?_ _ | refine zN ?_ | refine zM ?_ _)); refine blk_put (cs := #[.string t645, .string t646, .string t647, .string t648, .bool false]) ?_ 4 _ rfl; (with_reducible repeat (first | refine zL ?_ _ | refine zN ?_ | refine zM ?_ _)); refine blk_put (cs := #[.string t645, .string t646, .string t647, .string (⟨#[]⟩ : ByteArray), .bool false]) ?_ 3 _ rfl; (with_reducible repeat (first | refine zL ?_ _ | refine zN ?_ | refine zM ?_ _)); refine blk_put (cs := #[.string t645, .string t646, .string (⟨#[]⟩ : ByteArray), .string (⟨#[]⟩ : ByteArray), .bool false]) ?_ 2 _ rfl; (with_reducible repeat (first | refine zL ?_ _ | refine zN ?_ | refine zM ?_ _)); refine blk_put (cs := #[.string t645, .string (⟨#[]⟩ : ByteArray), .string (⟨#[]⟩ : ByteArray), .string (⟨#[]⟩ : ByteArray), .bool false]) ?_ 1 _ rfl; (with_reducible repeat (first | refine zL ?_ _ | refine zN ?_ | refine zM ?_ _)); refine blk_put (cs := #[.string (⟨#[]⟩ : ByteArray), .string (⟨#[]⟩ : ByteArray), .string (⟨#[]⟩ : ByteArray), .string (⟨#[]⟩ : ByteArray), .bool false]) ?_ 0 _ rfl; (with_reducible repeat (first | refine zL ?_ _ | refine zN ?_ | refine zM ?_ _)); exact BK653.out) hb); have n4_ := zA (zAD (by repeat (first | (with_reducible first | exact HB.out | apply zH | apply zF | apply zG | refine zI ?_ GE625.out | refine zI ?_ GE635.out | refine zI ?_ GE653.out) | exact HB.out)) hb); clear HO652; clear BK625; clear BK635; clear BK653; clear HB; have HO652 := n0_; have BK625 := n1_; have BK635 := n2_; have BK653 := n3_; have HB := n4_; clear n0_ n1_ n2_ n3_ n4_; (try clear hb); (try clear hk); have hcz84_0 : w83.cell? ⟨gb653, 0, none⟩ = some (.string t645) := (zP BK653.out 0).trans rfl; have hcz84_1 : w83.cell? ⟨gb653, 1, none⟩ = some (.string t646) := (zP BK653.out 1).trans rfl; have hcz84_2 : w83.cell? ⟨gb653, 2, none⟩ = some (.string t647) := (zP BK653.out 2).trans rfl; have hcz84_3 : w83.cell? ⟨gb653, 3, none⟩ = some (.string t648) := (zP BK653.out 3).trans rfl; have hcz84_4 : w83.cell? ⟨gb653, 4, none⟩ = some (.bool t649) := (zP BK653.out 4).trans rfl; have hfz84_0 := zO BK653.out 0; have hfz84_1 := zO BK653.out 1; have hfz84_2 := zO BK653.out 2; have hfz84_3 := zO BK653.out 3; have hfz84_4 := zO BK653.out 4) | ((with_reducible refine yB (f := 29) rfl ?_); refine goesL_ (some 145) rfl rfl Try.func29 (by kernel_rfl) rfl #[.string t643, .int .i64 t644, .agg #[.string t645, .string t646, .string t647, .string t648, .bool t649], .slice Ao82 t650.length co82] rfl (by (try simp only [zAA, zAB, zAC]); first | done | rfl | (simp only [zZ, zY]; rfl)) ?_; (with_reducible refine (spec_CheckSlot.calls kj44 t643 t644 t645 t646 t647 t648 t649 _ _ t650 t656 t657 _ ?side1 ?side2 A69.out).mono ?_); (case side1 => repeat (first | exact (yD HO652.out).2.2 | (with_reducible refine zT ?_ _) | (with_reducible refine zU ?_ _) | (with_reducible refine zV ?_))); (case side2 => exact (yD HO652.out).2.1); rintro e w85 ⟨rfl, hb⟩; refine ⟨_, rfl, ?_⟩; have n0_ := zA (Kd.R_below (by (with_reducible repeat first | apply zQ | apply zR | apply zS); exact HO652.out) hb); have n1_ := zA (yE (g := gb625) (o := .cells #[.string t616, .string t617, .string t618, .string t619, .bool t620] 40 (0, 0)) (by (with_reducible repeat (first | refine zL ?_ _ | refine zN ?_ | refine zM ?_ _)); exact BK625.out) hb); have n2_ := zA (yE (g := gb635) (o := .cells #[.string t626, .string t627, .string t628, .string t629, .bool t630] 40 (0, 0)) (by (with_reducible repeat (first | refine zL ?_ _ | refine zN ?_ | refine zM ?_ _)); exact BK635.out) hb); have n3_ := zA (yE (g := gb653) (o := .cells #[.string t645, .string t646, .string t647, .string t648, .bool t649] 40 (0, 0)) (by (with_reducible repeat (first | refine zL ?_ _ | refine zN ?_ | refine zM ?_ _)); exact BK653.out) hb); have n4_ := zA (zAD (by repeat (first | (with_reducible first | exact HB.out | apply zH | apply zF | apply zG | refine zI ?_ GE625.out | refine zI ?_ GE635.out | refine zI ?_ GE653.out) | exact HB.out)) hb); clear HO652; clear BK625; clear BK635; clear BK653; clear HB; have HO652 := n0_; have BK625 := n1_; have BK635 := n2_; have BK653 := n3_; have HB := n4_; clear n0_ n1_ n2_ n3_ n4_; (try clear hb)) | ((with_reducible refine yB (f := 30) rfl ?_); refine goesL_ (some 150) rfl rfl Try.func30 (by kernel_rfl) rfl #[.slice A1 l1.length c1] rfl (by (try simp only [zAA, zAB, zAC]); first | done | rfl | (simp only [zZ, zY]; rfl)) ?_; (with_reducible refine (spec_DrawPutSlot.calls kj44 _ _ l1 t658 t659 t660 t661 _ ?side1 ?side2 A70.out).mono ?_); (case side1 => repeat (first | exact (Kd.C_below HR1.out HB.out) | (with_reducible refine zT ?_ _) | (with_reducible refine zU ?_ _) | (with_reducible refine zV ?_))); (case side2 => exact HC1.out); rintro e w86 ⟨v662, rfl, ho0, hb⟩; refine ⟨_, rfl, ?_⟩; have n0_ := zA (Kd.R_below (by (with_reducible repeat first | apply zQ | apply zR | apply zS); exact HO652.out) hb); have n1_ := zA (Kd.R_lower (Kd.R_newB (Kd.R_newB (Kd.R_newB ho0 (g := gb625) (o := .cells #[.string t616, .string t617, .string t618, .string t619, .bool t620] 40 (0, 0)) (by (with_reducible repeat (first | refine zL ?_ _ | refine zN ?_ | refine zM ?_ _)); exact BK625.out)) (g := gb635) (o := .cells #[.string t626, .string t627, .string t628, .string t629, .bool t630] 40 (0, 0)) (by (with_reducible repeat (first | refine zL ?_ _ | refine zN ?_ | refine zM ?_ _)); exact BK635.out)) (g := gb653) (o := .cells #[.string t645, .string t646, .string t647, .string t648, .bool t649] 40 (0, 0)) (by (with_reducible repeat (first | refine zL ?_ _ | refine zN ?_ | refine zM ?_ _)); exact BK653.out)) (zAE (by repeat (first | (with_reducible first | exact HB.out | apply zH | apply zF | apply zG | refine zI ?_ GE625.out | refine zI ?_ GE635.out | refine zI ?_ GE653.out) | exact HB.out)))); have n2_ := zA (yE (g := gb625) (o := .cells #[.string t616, .string t617, .string t618, .string t619, .bool t620] 40 (0, 0)) (by (with_reducible repeat (first | refine zL ?_ _ | refine zN ?_ | refine zM ?_ _)); exact BK625.out) hb); have n3_ := zA (yE (g := gb635) (o := .cells #[.string t626, .string t627, .string t628, .string t629, .bool t630] 40 (0, 0)) (by (with_reducible repeat (first | refine zL ?_ _ | refine zN ?_ | refine zM ?_ _)); exact BK635.out) hb); have n4_ := zA (yE (g := gb653) (o := .cells #[.string t645, .string t646, .string t647, .string t648, .bool t649] 40 (0, 0)) (by (with_reducible repeat (first | refine zL ?_ _ | refine zN ?_ | refine zM ?_ _)); exact BK653.out) hb); have n5_ := zA (zAD (by repeat (first | (with_reducible first | exact HB.out | apply zH | apply zF | apply zG | refine zI ?_ GE625.out | refine zI ?_ GE635.out | refine zI ?_ GE653.out) | exact HB.out)) hb); clear HO652; clear BK625; clear BK635; clear BK653; clear HB; have HO652 := n0_; have HO663 := n1_; have BK625 := n2_; have BK635 := n3_; have BK653 := n4_; have HB := n5_; clear n0_ n1_ n2_ n3_ n4_ n5_; (try clear hb); (try clear ho0); obtain ⟨Ao87, co87, eo87⟩ := Kd.R_slice HO663.out; subst eo87) | ((with_reducible refine yB (f := 31) rfl ?_); refine goesL_ (some 160) rfl rfl Try.func31 (by kernel_rfl) rfl #[.slice Ao87 t658.length co87, .string t659, .string t660, .string t661] rfl (by (try simp only [zAA, zAB, zAC]); first | done | rfl | (simp only [zZ, zY]; rfl)) ?_; (with_reducible refine (impl_PutSlot.calls kj44 _ _ t658 t659 t660 t661 t664 t665 _ ?side1 ?side2 A71.out).mono ?_); (case side1 => repeat (first | exact (yD HO663.out).2.2 | (with_reducible refine zT ?_ _) | (with_reducible refine zU ?_ _) | (with_reducible refine zV ?_))); (case side2 => exact (yD HO663.out).2.1); rintro e w88 ⟨v666, rfl, ho0, hb⟩; refine ⟨_, rfl, ?_⟩; have n0_ := zA (Kd.R_below (by (with_reducible repeat first | apply zQ | apply zR | apply zS); exact HO652.out) hb); have n1_ := zA (yJ (by (with_reducible repeat first | apply zQ | apply zR | apply zS); exact HO663.out) (Kd.R_base ho0) hb); have n2_ := zA (Kd.R_lower (Kd.R_newB (Kd.R_newB (Kd.R_newB (yK ho0 (Kd.R_lt (by (with_reducible repeat first | apply zQ | apply zR | apply zS); exact HO663.out))) (g := gb625) (o := .cells #[.string t616, .string t617, .string t618, .string t619, .bool t620] 40 (0, 0)) (by (with_reducible repeat (first | refine zL ?_ _ | refine zN ?_ | refine zM ?_ _)); exact BK625.out)) (g := gb635) (o := .cells #[.string t626, .string t627, .string t628, .string t629, .bool t630] 40 (0, 0)) (by (with_reducible repeat (first | refine zL ?_ _ | refine zN ?_ | refine zM ?_ _)); exact BK635.out)) (g := gb653) (o := .cells #[.string t645, .string t646, .string t647, .string t648, .bool t649] 40 (0, 0)) (by (with_reducible repeat (first | refine zL ?_ _ | refine zN ?_ | refine zM ?_ _)); exact BK653.out)) (zAE (by repeat (first | (with_reducible first | exact HB.out | apply zH | apply zF | apply zG | refine zI ?_ GE625.out | refine zI ?_ GE635.out | refine zI ?_ GE653.out) | exact HB.out)))); have n3_ := zA (yE (g := gb625) (o := .cells #[.string t616, .string t617, .string t618, .string t619, .bool t620] 40 (0, 0)) (by (with_reducible repeat (first | refine zL ?_ _ | refine zN ?_ | refine zM ?_ _)); exact BK625.out) hb); have n4_ := zA (yE (g := gb635) (o := .cells #[.string t626, .string t627, .string t628, .string t629, .bool t630] 40 (0, 0)) (by (with_reducible repeat (first | refine zL ?_ _ | refine zN ?_ | refine zM ?_ _)); exact BK635.out) hb); have n5_ := zA (yE (g := gb653) (o := .cells #[.string t645, .string t646, .string t647, .string t648, .bool t649] 40 (0, 0)) (by (with_reducible repeat (first | refine zL ?_ _ | refine zN ?_ | refine zM ?_ _)); exact BK653.out) hb); have n6_ := zA (zAD (by repeat (first | (with_reducible first | exact HB.out | apply zH | apply zF | apply zG | refine zI ?_ GE625.out | refine zI ?_ GE635.out | refine zI ?_ GE653.out) | exact HB.out)) hb); clear HO652; clear HO663; clear BK625; clear BK635; clear BK653; clear HB; have HO652 := n0_; have HO663 := n1_; have HO667 := n2_; have BK625 := n3_; have BK635 := n4_; have BK653 := n5_; have HB := n6_; clear n0_ n1_ n2_ n3_ n4_ n5_ n6_; (try clear hb); (try clear ho0)) | ((with_reducible refine yB (f := 32) rfl ?_); refine goesL_ (some 168) rfl rfl Try.func32 (by kernel_rfl) rfl #[.slice Ao87 t658.length co87, .string t659, .string t660, .string t661] rfl (by (try simp only [zAA, zAB, zAC]); first | done | rfl | (simp only [zZ, zY]; rfl)) ?_; (with_reducible refine (spec_PutSlot.calls kj44 _ _ t658 t659 t660 t661 t668 t669 _ ?side1 ?side2 A72.out).mono ?_); (case side1 => repeat (first | exact (yD HO663.out).2.2 | (with_reducible refine zT ?_ _) | (with_reducible refine zU ?_ _) | (with_reducible refine zV ?_))); (case side2 => exact (yD HO663.out).2.1); rintro e w89 ⟨v670, rfl, ho0, hb⟩; refine ⟨_, rfl, ?_⟩; have n0_ := zA (Kd.R_below (by (with_reducible repeat first | apply zQ | apply zR | apply zS); exact HO652.out) hb); have n1_ := zA (yJ (by (with_reducible repeat first | apply zQ | apply zR | apply zS); exact HO663.out) (Kd.R_base ho0) hb); have n2_ := zA (yJ (by (with_reducible repeat first | apply zQ | apply zR | apply zS); exact HO667.out) (Kd.R_base ho0) hb); have n3_ := zA (Kd.R_lower (Kd.R_newB (Kd.R_newB (Kd.R_newB (yK (yK ho0 (Kd.R_lt (by (with_reducible repeat first | apply zQ | apply zR | apply zS); exact HO663.out))) (Kd.R_lt (by (with_reducible repeat first | apply zQ | apply zR | apply zS); exact HO667.out))) (g := gb625) (o := .cells #[.string t616, .string t617, .string t618, .string t619, .bool t620] 40 (0, 0)) (by (with_reducible repeat (first | refine zL ?_ _ | refine zN ?_ | refine zM ?_ _)); exact BK625.out)) (g := gb635) (o := .cells #[.string t626, .string t627, .string t628, .string t629, .bool t630] 40 (0, 0)) (by (with_reducible repeat (first | refine zL ?_ _ | refine zN ?_ | refine zM ?_ _)); exact BK635.out)) (g := gb653) (o := .cells #[.string t645, .string t646, .string t647, .string t648, .bool t649] 40 (0, 0)) (by (with_reducible repeat (first | refine zL ?_ _ | refine zN ?_ | refine zM ?_ _)); exact BK653.out)) (zAE (by repeat (first | (with_reducible first | exact HB.out | apply zH | apply zF | apply zG | refine zI ?_ GE625.out | refine zI ?_ GE635.out | refine zI ?_ GE653.out) | exact HB.out)))); have n4_ := zA (yE (g := gb625) (o := .cells #[.string t616, .string t617, .string t618, .string t619, .bool t620] 40 (0, 0)) (by (with_reducible repeat (first | refine zL ?_ _ | refine zN ?_ | refine zM ?_ _)); exact BK625.out) hb); have n5_ := zA (yE (g := gb635) (o := .cells #[.string t626, .string t627, .string t628, .string t629, .bool t630] 40 (0, 0)) (by (with_reducible repeat (first | refine zL ?_ _ | refine zN ?_ | refine zM ?_ _)); exact BK635.out) hb); have n6_ := zA (yE (g := gb653) (o := .cells #[.string t645, .string t646, .string t647, .string t648, .bool t649] 40 (0, 0)) (by (with_reducible repeat (first | refine zL ?_ _ | refine zN ?_ | refine zM ?_ _)); exact BK653.out) hb); have n7_ := zA (zAD (by repeat (first | (with_reducible first | exact HB.out | apply zH | apply zF | apply zG | refine zI ?_ GE625.out | refine zI ?_ GE635.out | refine zI ?_ GE653.out) | exact HB.out)) hb); clear HO652; clear HO663; clear HO667; clear BK625; clear BK635; clear BK653; clear HB; have HO652 := n0_; have HO663 := n1_; have HO667 := n2_; have HO671 := n3_; have BK625 := n4_; have BK635 := n5_; have BK653 := n6_; have HB := n7_; clear n0_ n1_ n2_ n3_ n4_ n5_ n6_ n7_; (try clear hb); (try clear ho0)) | ((with_reducible refine yB (f := 33) rfl ?_); refine goesL_ (some 173) rfl rfl Try.func33 (by kernel_rfl) rfl #[.slice A1 l1.length c1] rfl (by (try simp only [zAA, zAB, zAC]); first | done | rfl | (simp only [zZ, zY]; rfl)) ?_; (with_reducible refine (spec_DrawCommitOf.calls _ _ l1 t672 t673 t674 _ ?side1 ?side2 A73.out).mono ?_); (case side1 => repeat (first | exact (Kd.C_below HR1.out HB.out) | (with_reducible refine zT ?_ _) | (with_reducible refine zU ?_ _) | (with_reducible refine zV ?_))); (case side2 => exact HC1.out); rintro e w90 ⟨rfl, hb⟩; refine ⟨_, rfl, ?_⟩; have n0_ := zA (Kd.R_below (by (with_reducible repeat first | apply zQ | apply zR | apply zS); exact HO652.out) hb); have n1_ := zA (Kd.R_below (by (with_reducible repeat first | apply zQ | apply zR | apply zS); exact HO663.out) hb); have n2_ := zA (Kd.R_below (by (with_reducible repeat first | apply zQ | apply zR | apply zS); exact HO667.out) hb); have n3_ := zA (Kd.R_below (by (with_reducible repeat first | apply zQ | apply zR | apply zS); exact HO671.out) hb); have n4_ := zA (yE (g := gb625) (o := .cells #[.string t616, .string t617, .string t618, .string t619, .bool t620] 40 (0, 0)) (by (with_reducible repeat (first | refine zL ?_ _ | refine zN ?_ | refine zM ?_ _)); exact BK625.out) hb); have n5_ := zA (yE (g := gb635) (o := .cells #[.string t626, .string t627, .string t628, .string t629, .bool t630] 40 (0, 0)) (by (with_reducible repeat (first | refine zL ?_ _ | refine zN ?_ | refine zM ?_ _)); exact BK635.out) hb); have n6_ := zA (yE (g := gb653) (o := .cells #[.string t645, .string t646, .string t647, .string t648, .bool t649] 40 (0, 0)) (by (with_reducible repeat (first | refine zL ?_ _ | refine zN ?_ | refine zM ?_ _)); exact BK653.out) hb); have n7_ := zA (zAD (by repeat (first | (with_reducible first | exact HB.out | apply zH | apply zF | apply zG | refine zI ?_ GE625.out | refine zI ?_ GE635.out | refine zI ?_ GE653.out) | exact HB.out)) hb); clear HO652; clear HO663; clear HO667; clear HO671; clear BK625; clear BK635; clear BK653; clear HB; have HO652 := n0_; have HO663 := n1_; have HO667 := n2_; have HO671 := n3_; have BK625 := n4_; have BK635 := n5_; have BK653 := n6_; have HB := n7_; clear n0_ n1_ n2_ n3_ n4_ n5_ n6_ n7_; (try clear hb)) | ((with_reducible refine yB (f := 34) rfl ?_); refine goesL_ (some 181) rfl rfl Try.func34 (by kernel_rfl) rfl #[.string t672, .string t673, .string t674] rfl (by (try simp only [zAA, zAB, zAC]); first | done | rfl) ?_; (with_reducible refine (impl_CommitOf.calls kj44 t672 t673 t674 t675 t676 _ A74.out).mono ?_); rintro e w91 ⟨rfl, hb⟩; refine ⟨_, rfl, ?_⟩; have n0_ := zA (Kd.R_below (by (with_reducible repeat first | apply zQ | apply zR | apply zS); exact HO652.out) hb); have n1_ := zA (Kd.R_below (by (with_reducible repeat first | apply zQ | apply zR | apply zS); exact HO663.out) hb); have n2_ := zA (Kd.R_below (by (with_reducible repeat first | apply zQ | apply zR | apply zS); exact HO667.out) hb); have n3_ := zA (Kd.R_below (by (with_reducible repeat first | apply zQ | apply zR | apply zS); exact HO671.out) hb); have n4_ := zA (yE (g := gb625) (o := .cells #[.string t616, .string t617, .string t618, .string t619, .bool t620] 40 (0, 0)) (by (with_reducible repeat (first | refine zL ?_ _ | refine zN ?_ | refine zM ?_ _)); exact BK625.out) hb); have n5_ := zA (yE (g := gb635) (o := .cells #[.string t626, .string t627, .string t628, .string t629, .bool t630] 40 (0, 0)) (by (with_reducible repeat (first | refine zL ?_ _ | refine zN ?_ | refine zM ?_ _)); exact BK635.out) hb); have n6_ := zA (yE (g := gb653) (o := .cells #[.string t645, .string t646, .string t647, .string t648, .bool t649] 40 (0, 0)) (by (with_reducible repeat (first | refine zL ?_ _ | refine zN ?_ | refine zM ?_ _)); exact BK653.out) hb); have n7_ := zA (zAD (by repeat (first | (with_reducible first | exact HB.out | apply zH | apply zF | apply zG | refine zI ?_ GE625.out | refine zI ?_ GE635.out | refine zI ?_ GE653.out) | exact HB.out)) hb); clear HO652; clear HO663; clear HO667; clear HO671; clear BK625; clear BK635; clear BK653; clear HB; have HO652 := n0_; have HO663 := n1_; have HO667 := n2_; have HO671 := n3_; have BK625 := n4_; have BK635 := n5_; have BK653 := n6_; have HB := n7_; clear n0_ n1_ n2_ n3_ n4_ n5_ n6_ n7_; (try clear hb)) | ((with_reducible refine yB (f := 35) rfl ?_); refine goesL_ (some 188) rfl rfl Try.func35 (by kernel_rfl) rfl #[.string t672, .string t673, .string t674] rfl (by (try simp only [zAA, zAB, zAC]); first | done | rfl) ?_; (with_reducible refine (spec_CommitOf.calls kj44 t672 t673 t674 t677 t678 _ A75.out).mono ?_); rintro e w92 ⟨rfl, hb⟩; refine ⟨_, rfl, ?_⟩; have n0_ := zA (Kd.R_below (by (with_reducible repeat first | apply zQ | apply zR | apply zS); exact HO652.out) hb); have n1_ := zA (Kd.R_below (by (with_reducible repeat first | apply zQ | apply zR | apply zS); exact HO663.out) hb); have n2_ := zA (Kd.R_below (by (with_reducible repeat first | apply zQ | apply zR | apply zS); exact HO667.out) hb); have n3_ := zA (Kd.R_below (by (with_reducible repeat first | apply zQ | apply zR | apply zS); exact HO671.out) hb); have n4_ := zA (yE (g := gb625) (o := .cells #[.string t616, .string t617, .string t618, .string t619, .bool t620] 40 (0, 0)) (by (with_reducible repeat (first | refine zL ?_ _ | refine zN ?_ | refine zM ?_ _)); exact BK625.out) hb); have n5_ := zA (yE (g := gb635) (o := .cells #[.string t626, .string t627, .string t628, .string t629, .bool t630] 40 (0, 0)) (by (with_reducible repeat (first | refine zL ?_ _ | refine zN ?_ | refine zM ?_ _)); exact BK635.out) hb); have n6_ := zA (yE (g := gb653) (o := .cells #[.string t645, .string t646, .string t647, .string t648, .bool t649] 40 (0, 0)) (by (with_reducible repeat (first | refine zL ?_ _ | refine zN ?_ | refine zM ?_ _)); exact BK653.out) hb); have n7_ := zA (zAD (by repeat (first | (with_reducible first | exact HB.out | apply zH | apply zF | apply zG | refine zI ?_ GE625.out | refine zI ?_ GE635.out | refine zI ?_ GE653.out) | exact HB.out)) hb); clear HO652; clear HO663; clear HO667; clear HO671; clear BK625; clear BK635; clear BK653; clear HB; have HO652 := n0_; have HO663 := n1_; have HO667 := n2_; have HO671 := n3_; have BK625 := n4_; have BK635 := n5_; have BK653 := n6_; have HB := n7_; clear n0_ n1_ n2_ n3_ n4_ n5_ n6_ n7_; (try clear hb)))
       (try simp only [Act.put, zC, zD, zE]); go_cut [219] (fun v219 wc => ∃ (kq : Nat) (x219_75 : Bool), v219 = .bool x219_75 ∧ Aside0 (laws_FnShelf.j2 kq t658 t659 t660 t661 t664 t665 x219_75 = some r) ∧ Aside0 (kq ≤ kj44) ∧ Aside0 (Kd.R k40 40 wc w.heap.size (fun k_ => some k_ ≠ (v666 : Value).ownBlock ∧ k_ ≠ gb625 ∧ k_ ≠ gb635 ∧ k_ ≠ gb653) (.slice Ao87 t658.length co87) t658) ∧ Aside0 (Kd.R k40 40 wc w.heap.size (fun k_ => some k_ ≠ ((.slice Ao87 t658.length co87) : Value).ownBlock ∧ k_ ≠ gb625 ∧ k_ ≠ gb635 ∧ k_ ≠ gb653) v666 t664) ∧ Aside0 (wc.heap[gb625]? = some (.cells #[.string t616, .string t617, .string t618, .string t619, .bool t620] 40 (0, 0))) ∧ Aside0 (wc.heap[gb635]? = some (.cells #[.string t626, .string t627, .string t628, .string t629, .bool t630] 40 (0, 0))) ∧ Aside0 (wc.heap[gb653]? = some (.cells #[.string t645, .string t646, .string t647, .string t648, .bool t649] 40 (0, 0))) ∧ Aside0 (Below w.heap.size w wc))
       case first =>
        have H := HC76.out; clear HC76
        by_cases c93 : (t655 != t657) = true
        ·rw [if_pos c93] at H
         have c93b0 : (t655 != t657) = true := c93; (try (have c93b1 : decide (t655 = t657) = false := by simpa using c93)); (try (have c93b2 : (t655 == t657) = false := by simpa using c93)); (try (have c93b3 : ¬ (t655 = t657) := by simpa using c93)); clear c93; (first | rw [c93b0] | (simp only [i64_w, i32_w]; rw [c93b0]) | skip)
         as_aux_lemma =>
          have H' := zA H; clear H; go_wp2; go_meet
          case rel => exact ⟨_, (true), (by first | rfl | (simp; done) | (simp [*]; done) | (simp [bne]; done)), H', ⟨by have := HJ8.out; have := HJ44.out; first | omega | exact Nat.le_refl _⟩, ⟨by (with_reducible repeat first | apply zQ | apply zR | apply zS); exact yC HO663.out (fun _ hk => ⟨hk.1.2, ⟨hk.1.1.1.1.2, ⟨hk.1.1.1.2, hk.1.1.2⟩⟩⟩)⟩, ⟨by (with_reducible repeat first | apply zQ | apply zR | apply zS); exact yC HO667.out (fun _ hk => ⟨hk.1.1.1.1.2, ⟨hk.1.1.1.2, ⟨hk.1.1.2, hk.1.2⟩⟩⟩)⟩, ⟨by (with_reducible repeat (first | refine zL ?_ _ | refine zN ?_ | refine zM ?_ _)); exact BK625.out⟩, ⟨by (with_reducible repeat (first | refine zL ?_ _ | refine zN ?_ | refine zM ?_ _)); exact BK635.out⟩, ⟨by (with_reducible repeat (first | refine zL ?_ _ | refine zN ?_ | refine zM ?_ _)); exact BK653.out⟩, ⟨by repeat (first | (with_reducible first | exact HB.out | apply zH | apply zF | apply zG | refine zI ?_ GE625.out | refine zI ?_ GE635.out | refine zI ?_ GE653.out) | exact HB.out)⟩⟩
        ·rw [if_neg c93] at H
         have c93b0 : (t655 != t657) = false := by simpa using c93
         (try (have c93b1 : decide (t655 = t657) = true := by simpa using c93)); (try (have c93b2 : (t655 == t657) = true := by simpa using c93)); clear c93; (first | rw [c93b0] | (simp only [i64_w, i32_w]; rw [c93b0]) | skip)
         by_cases c94 : (t654 != t656) = true
         ·rw [if_pos c94] at H
          have c94b0 : (t654 != t656) = true := c94; (try (have c94b1 : decide (t654 = t656) = false := by simpa using c94)); (try (have c94b2 : (t654 == t656) = false := by simpa using c94)); (try (have c94b3 : ¬ (t654 = t656) := by simpa using c94)); clear c94
          as_aux_lemma =>
           have H' := zA H; clear H; go_wp2; go_meet
           case rel => exact ⟨_, (true), (by first | rfl | (simp; done) | (simp [*]; done) | (simp [bne]; done)), H', ⟨by have := HJ8.out; have := HJ44.out; first | omega | exact Nat.le_refl _⟩, ⟨by (with_reducible repeat first | apply zQ | apply zR | apply zS); exact yC HO663.out (fun _ hk => ⟨hk.1.2, ⟨hk.1.1.1.1.2, ⟨hk.1.1.1.2, hk.1.1.2⟩⟩⟩)⟩, ⟨by (with_reducible repeat first | apply zQ | apply zR | apply zS); exact yC HO667.out (fun _ hk => ⟨hk.1.1.1.1.2, ⟨hk.1.1.1.2, ⟨hk.1.1.2, hk.1.2⟩⟩⟩)⟩, ⟨by (with_reducible repeat (first | refine zL ?_ _ | refine zN ?_ | refine zM ?_ _)); exact BK625.out⟩, ⟨by (with_reducible repeat (first | refine zL ?_ _ | refine zN ?_ | refine zM ?_ _)); exact BK635.out⟩, ⟨by (with_reducible repeat (first | refine zL ?_ _ | refine zN ?_ | refine zM ?_ _)); exact BK653.out⟩, ⟨by repeat (first | (with_reducible first | exact HB.out | apply zH | apply zF | apply zG | refine zI ?_ GE625.out | refine zI ?_ GE635.out | refine zI ?_ GE653.out) | exact HB.out)⟩⟩
         ·rw [if_neg c94] at H
          have c94b0 : (t654 != t656) = false := by simpa using c94
          (try (have c94b1 : decide (t654 = t656) = true := by simpa using c94)); (try (have c94b2 : (t654 == t656) = true := by simpa using c94)); clear c94
          by_cases c95 : (t665 != t669) = true
          ·rw [if_pos c95] at H
           have c95b0 : (t665 != t669) = true := c95; (try (have c95b1 : decide (t665 = t669) = false := by simpa using c95)); (try (have c95b2 : (t665 == t669) = false := by simpa using c95)); (try (have c95b3 : ¬ (t665 = t669) := by simpa using c95)); clear c95
           as_aux_lemma =>
            have H' := zA H; clear H; go_wp2; go_meet
            case rel => exact ⟨_, (true), (by first | rfl | (simp; done) | (simp [*]; done) | (simp [bne]; done)), H', ⟨by have := HJ8.out; have := HJ44.out; first | omega | exact Nat.le_refl _⟩, ⟨by (with_reducible repeat first | apply zQ | apply zR | apply zS); exact yC HO663.out (fun _ hk => ⟨hk.1.2, ⟨hk.1.1.1.1.2, ⟨hk.1.1.1.2, hk.1.1.2⟩⟩⟩)⟩, ⟨by (with_reducible repeat first | apply zQ | apply zR | apply zS); exact yC HO667.out (fun _ hk => ⟨hk.1.1.1.1.2, ⟨hk.1.1.1.2, ⟨hk.1.1.2, hk.1.2⟩⟩⟩)⟩, ⟨by (with_reducible repeat (first | refine zL ?_ _ | refine zN ?_ | refine zM ?_ _)); exact BK625.out⟩, ⟨by (with_reducible repeat (first | refine zL ?_ _ | refine zN ?_ | refine zM ?_ _)); exact BK635.out⟩, ⟨by (with_reducible repeat (first | refine zL ?_ _ | refine zN ?_ | refine zM ?_ _)); exact BK653.out⟩, ⟨by repeat (first | (with_reducible first | exact HB.out | apply zH | apply zF | apply zG | refine zI ?_ GE625.out | refine zI ?_ GE635.out | refine zI ?_ GE653.out) | exact HB.out)⟩⟩
          ·rw [if_neg c95] at H
           have c95b0 : (t665 != t669) = false := by simpa using c95
           (try (have c95b1 : decide (t665 = t669) = true := by simpa using c95)); (try (have c95b2 : (t665 == t669) = true := by simpa using c95)); clear c95; replace H := zAF H; obtain ⟨t679, A960, H⟩ := H; replace H : (if t679 = true then (if (t676 != t678) = true then (laws_FnShelf.j2 kj44 t658 t659 t660 t661 t664 t665 true) else (laws_FnShelf.j2 kj44 t658 t659 t660 t661 t664 t665 (t675.toList != t677.toList))) else (laws_FnShelf.j2 kj44 t658 t659 t660 t661 t664 t665 true)) = some r := H; have A96 := zA A960; clear A960
           by_cases c97 : t679 = true
           ·subst c97
            have H1 : (if (t676 != t678) = true then (laws_FnShelf.j2 kj44 t658 t659 t660 t661 t664 t665 true) else (laws_FnShelf.j2 kj44 t658 t659 t660 t661 t664 t665 (t675.toList != t677.toList))) = some r := by rw [if_pos rfl] at H; exact H
            clear H; have H := H1; clear H1
            by_cases c98 : (t676 != t678) = true
            ·rw [if_pos c98] at H
             have c98b0 : (t676 != t678) = true := c98; (try (have c98b1 : decide (t676 = t678) = false := by simpa using c98)); (try (have c98b2 : (t676 == t678) = false := by simpa using c98)); (try (have c98b3 : ¬ (t676 = t678) := by simpa using c98)); clear c98
             as_aux_lemma =>
              have H' := zA H; clear H; obtain ⟨Ao99, co99, eo99⟩ := Kd.R_slice HO667.out; subst eo99; obtain ⟨Ao100, co100, eo100⟩ := Kd.R_slice HO671.out; subst eo100; go_wp2_with (first | (go_at_call 36; (with_reducible refine (laws_sameSlots.calls kj44 _ _ t664 _ _ t668 true _ ?side1 ?side2 ?side3 ?side4 A96.out).mono ?_); (case side1 => repeat (first | exact (yD HO667.out).2.2 | (with_reducible refine zT ?_ _) | (with_reducible refine zU ?_ _) | (with_reducible refine zV ?_))); (case side2 => exact (yD HO667.out).2.1); (case side3 => repeat (first | exact (yD HO671.out).2.2 | (with_reducible refine zT ?_ _) | (with_reducible refine zU ?_ _) | (with_reducible refine zV ?_))); (case side4 => exact (yD HO671.out).2.1); rintro e w' ⟨rfl, ⟨nd, rfl⟩⟩)); go_meet
              case rel => exact ⟨_, (true), (by first | rfl | (simp; done) | (simp [*]; done) | (simp [bne]; done)), H', ⟨by have := HJ8.out; have := HJ44.out; first | omega | exact Nat.le_refl _⟩, ⟨by (with_reducible repeat first | apply zQ | apply zR | apply zS); exact yC HO663.out (fun _ hk => ⟨hk.1.2, ⟨hk.1.1.1.1.2, ⟨hk.1.1.1.2, hk.1.1.2⟩⟩⟩)⟩, ⟨by (with_reducible repeat first | apply zQ | apply zR | apply zS); exact yC HO667.out (fun _ hk => ⟨hk.1.1.1.1.2, ⟨hk.1.1.1.2, ⟨hk.1.1.2, hk.1.2⟩⟩⟩)⟩, ⟨by (with_reducible repeat (first | refine zL ?_ _ | refine zN ?_ | refine zM ?_ _)); exact BK625.out⟩, ⟨by (with_reducible repeat (first | refine zL ?_ _ | refine zN ?_ | refine zM ?_ _)); exact BK635.out⟩, ⟨by (with_reducible repeat (first | refine zL ?_ _ | refine zN ?_ | refine zM ?_ _)); exact BK653.out⟩, ⟨by repeat (first | (with_reducible first | exact HB.out | apply zH | apply zF | apply zG | refine zI ?_ GE625.out | refine zI ?_ GE635.out | refine zI ?_ GE653.out) | exact HB.out)⟩⟩
            ·rw [if_neg c98] at H
             have c98b0 : (t676 != t678) = false := by simpa using c98
             (try (have c98b1 : decide (t676 = t678) = true := by simpa using c98)); (try (have c98b2 : (t676 == t678) = true := by simpa using c98)); clear c98
             as_aux_lemma =>
              have H' := zA H; clear H; obtain ⟨Ao101, co101, eo101⟩ := Kd.R_slice HO667.out; subst eo101; obtain ⟨Ao102, co102, eo102⟩ := Kd.R_slice HO671.out; subst eo102; go_wp2_with (first | (go_at_call 36; (with_reducible refine (laws_sameSlots.calls kj44 _ _ t664 _ _ t668 true _ ?side1 ?side2 ?side3 ?side4 A96.out).mono ?_); (case side1 => repeat (first | exact (yD HO667.out).2.2 | (with_reducible refine zT ?_ _) | (with_reducible refine zU ?_ _) | (with_reducible refine zV ?_))); (case side2 => exact (yD HO667.out).2.1); (case side3 => repeat (first | exact (yD HO671.out).2.2 | (with_reducible refine zT ?_ _) | (with_reducible refine zU ?_ _) | (with_reducible refine zV ?_))); (case side4 => exact (yD HO671.out).2.1); rintro e w' ⟨rfl, ⟨nd, rfl⟩⟩)); go_meet
              case rel => exact ⟨_, ((t675.toList != t677.toList)), (by first | rfl | (simp; done) | (simp [*]; done) | (simp [bne]; done)), H', ⟨by have := HJ8.out; have := HJ44.out; first | omega | exact Nat.le_refl _⟩, ⟨by (with_reducible repeat first | apply zQ | apply zR | apply zS); exact yC HO663.out (fun _ hk => ⟨hk.1.2, ⟨hk.1.1.1.1.2, ⟨hk.1.1.1.2, hk.1.1.2⟩⟩⟩)⟩, ⟨by (with_reducible repeat first | apply zQ | apply zR | apply zS); exact yC HO667.out (fun _ hk => ⟨hk.1.1.1.1.2, ⟨hk.1.1.1.2, ⟨hk.1.1.2, hk.1.2⟩⟩⟩)⟩, ⟨by (with_reducible repeat (first | refine zL ?_ _ | refine zN ?_ | refine zM ?_ _)); exact BK625.out⟩, ⟨by (with_reducible repeat (first | refine zL ?_ _ | refine zN ?_ | refine zM ?_ _)); exact BK635.out⟩, ⟨by (with_reducible repeat (first | refine zL ?_ _ | refine zN ?_ | refine zM ?_ _)); exact BK653.out⟩, ⟨by repeat (first | (with_reducible first | exact HB.out | apply zH | apply zF | apply zG | refine zI ?_ GE625.out | refine zI ?_ GE635.out | refine zI ?_ GE653.out) | exact HB.out)⟩⟩
           ·replace c97 := Bool.eq_false_iff.mpr c97
            subst c97; have H1 : (laws_FnShelf.j2 kj44 t658 t659 t660 t661 t664 t665 true) = some r := by rw [if_neg (show ¬ (false = true) by decide)] at H; exact H
            clear H; have H := H1; clear H1
            as_aux_lemma =>
             have H' := zA H; clear H; obtain ⟨Ao103, co103, eo103⟩ := Kd.R_slice HO667.out; subst eo103; obtain ⟨Ao104, co104, eo104⟩ := Kd.R_slice HO671.out; subst eo104; go_wp2_with (first | (go_at_call 36; (with_reducible refine (laws_sameSlots.calls kj44 _ _ t664 _ _ t668 false _ ?side1 ?side2 ?side3 ?side4 A96.out).mono ?_); (case side1 => repeat (first | exact (yD HO667.out).2.2 | (with_reducible refine zT ?_ _) | (with_reducible refine zU ?_ _) | (with_reducible refine zV ?_))); (case side2 => exact (yD HO667.out).2.1); (case side3 => repeat (first | exact (yD HO671.out).2.2 | (with_reducible refine zT ?_ _) | (with_reducible refine zU ?_ _) | (with_reducible refine zV ?_))); (case side4 => exact (yD HO671.out).2.1); rintro e w' ⟨rfl, ⟨nd, rfl⟩⟩)); go_meet
             case rel => exact ⟨_, (true), (by first | rfl | (simp; done) | (simp [*]; done) | (simp [bne]; done)), H', ⟨by have := HJ8.out; have := HJ44.out; first | omega | exact Nat.le_refl _⟩, ⟨by (with_reducible repeat first | apply zQ | apply zR | apply zS); exact yC HO663.out (fun _ hk => ⟨hk.1.2, ⟨hk.1.1.1.1.2, ⟨hk.1.1.1.2, hk.1.1.2⟩⟩⟩)⟩, ⟨by (with_reducible repeat first | apply zQ | apply zR | apply zS); exact yC HO667.out (fun _ hk => ⟨hk.1.1.1.1.2, ⟨hk.1.1.1.2, ⟨hk.1.1.2, hk.1.2⟩⟩⟩)⟩, ⟨by (with_reducible repeat (first | refine zL ?_ _ | refine zN ?_ | refine zM ?_ _)); exact BK625.out⟩, ⟨by (with_reducible repeat (first | refine zL ?_ _ | refine zN ?_ | refine zM ?_ _)); exact BK635.out⟩, ⟨by (with_reducible repeat (first | refine zL ?_ _ | refine zN ?_ | refine zM ?_ _)); exact BK653.out⟩, ⟨by repeat (first | (with_reducible first | exact HB.out | apply zH | apply zF | apply zG | refine zI ?_ GE625.out | refine zI ?_ GE635.out | refine zI ?_ GE653.out) | exact HB.out)⟩⟩
       case rest =>
        clear HC76
        try clear c1
        try clear c2
        try clear p2
        try clear c3
        try clear c3b0
        try clear c4
        try clear c5
        try clear c6
        try clear p6
        try clear c7
        try clear c8
        try clear c9
        try clear c17
        try clear c21
        try clear c21b0
        try clear c21b1
        try clear c21b2
        try clear c22
        try clear c22b0
        try clear c23
        try clear c24
        try clear c25
        try clear c27
        try clear c28
        try clear c28b0
        try clear c28b1
        try clear c28b2
        try clear c29
        try clear c30
        try clear c31
        try clear c32
        try clear c33
        try clear c34
        try clear c35
        try clear c39
        try clear c44
        try clear c46
        try clear c48
        try clear c49
        try clear c50
        try clear c51
        try clear c55
        try clear c59
        try clear c63
        try clear p64
        try clear c79
        try clear c80
        try clear c93
        try clear c93b0
        try clear c93b1
        try clear c93b2
        try clear c94
        try clear c94b0
        try clear c94b1
        try clear c94b2
        try clear c95
        try clear c95b0
        try clear c95b1
        try clear c95b2
        try clear c97
        try clear c98
        try clear c98b0
        try clear c98b1
        try clear c98b2
        try clear hcz14_0
        try clear hcz14_1
        try clear hcz14_2
        try clear hcz14_3
        try clear hcz14_4
        try clear hcz18_0
        try clear hcz18_1
        try clear hcz18_2
        try clear hcz18_3
        try clear hcz18_4
        try clear hcz24_0
        try clear hcz24_1
        try clear hcz24_2
        try clear hcz24_3
        try clear hcz24_4
        try clear hcz25_0
        try clear hcz25_1
        try clear hcz25_2
        try clear hcz25_3
        try clear hcz25_4
        try clear hcz30_0
        try clear hcz30_1
        try clear hcz30_2
        try clear hcz30_3
        try clear hcz30_4
        try clear hcz31_0
        try clear hcz31_1
        try clear hcz31_2
        try clear hcz31_3
        try clear hcz31_4
        try clear hcz35_0
        try clear hcz35_1
        try clear hcz35_2
        try clear hcz35_3
        try clear hcz35_4
        try clear hcz36_0
        try clear hcz36_1
        try clear hcz36_2
        try clear hcz36_3
        try clear hcz36_4
        try clear hcz40_0
        try clear hcz40_1
        try clear hcz40_2
        try clear hcz40_3
        try clear hcz40_4
        try clear hcz41_0
        try clear hcz41_1
        try clear hcz41_2
        try clear hcz41_3
        try clear hcz41_4
        try clear hcz52_0
        try clear hcz52_1
        try clear hcz52_2
        try clear hcz52_3
        try clear hcz52_4
        try clear hcz56_0
        try clear hcz56_1
        try clear hcz56_2
        try clear hcz56_3
        try clear hcz56_4
        try clear hcz60_0
        try clear hcz60_1
        try clear hcz60_2
        try clear hcz60_3
        try clear hcz60_4
        try clear hcz64_0
        try clear hcz64_1
        try clear hcz64_2
        try clear hcz64_3
        try clear hcz64_4
        try clear hcz81_0
        try clear hcz81_1
        try clear hcz81_2
        try clear hcz81_3
        try clear hcz81_4
        try clear hcz84_0
        try clear hcz84_1
        try clear hcz84_2
        try clear hcz84_3
        try clear hcz84_4
        try clear hfz14_0
        try clear hfz14_1
        try clear hfz14_2
        try clear hfz14_3
        try clear hfz14_4
        try clear hfz18_0
        try clear hfz18_1
        try clear hfz18_2
        try clear hfz18_3
        try clear hfz18_4
        try clear hfz24_0
        try clear hfz24_1
        try clear hfz24_2
        try clear hfz24_3
        try clear hfz24_4
        try clear hfz25_0
        try clear hfz25_1
        try clear hfz25_2
        try clear hfz25_3
        try clear hfz25_4
        try clear hfz30_0
        try clear hfz30_1
        try clear hfz30_2
        try clear hfz30_3
        try clear hfz30_4
        try clear hfz31_0
        try clear hfz31_1
        try clear hfz31_2
        try clear hfz31_3
        try clear hfz31_4
        try clear hfz35_0
        try clear hfz35_1
        try clear hfz35_2
        try clear hfz35_3
        try clear hfz35_4
        try clear hfz36_0
        try clear hfz36_1
        try clear hfz36_2
        try clear hfz36_3
        try clear hfz36_4
        try clear hfz40_0
        try clear hfz40_1
        try clear hfz40_2
        try clear hfz40_3
        try clear hfz40_4
        try clear hfz41_0
        try clear hfz41_1
        try clear hfz41_2
        try clear hfz41_3
        try clear hfz41_4
        try clear hfz52_0
        try clear hfz52_1
        try clear hfz52_2
        try clear hfz52_3
        try clear hfz52_4
        try clear hfz56_0
        try clear hfz56_1
        try clear hfz56_2
        try clear hfz56_3
        try clear hfz56_4
        try clear hfz60_0
        try clear hfz60_1
        try clear hfz60_2
        try clear hfz60_3
        try clear hfz60_4
        try clear hfz64_0
        try clear hfz64_1
        try clear hfz64_2
        try clear hfz64_3
        try clear hfz64_4
        try clear hfz81_0
        try clear hfz81_1
        try clear hfz81_2
        try clear hfz81_3
        try clear hfz81_4
        try clear hfz84_0
        try clear hfz84_1
        try clear hfz84_2
        try clear hfz84_3
        try clear hfz84_4
        try clear p2
        try clear p6
        try clear p64
        obtain ⟨kq, x219_75, rfl, HA, HJ75, HO_27, HO_31, BK625, BK635, BK653, HB⟩ := hcut
        cases kq with
        | zero => exact absurd HA.out (by simp [laws_FnShelf.j2])
        | succ kj75 =>
         have H := HA.out; clear HA; simp only [laws_FnShelf.j2] at H
         by_cases c105 : x219_75 = true
         ·subst c105
          have H1 : (some false) = some r := by rw [if_pos rfl] at H; exact H
          clear H; have H := H1; clear H1
          as_aux_lemma =>
           obtain rfl := Option.some.inj H; go_wp2; go_ret; exact ⟨by first | rfl | (simp <;> rfl) | (simp [*] <;> rfl), by repeat (first | (with_reducible first | exact HB.out | apply zH | apply zF | apply zG | refine zI ?_ GE625.out | refine zI ?_ GE635.out | refine zI ?_ GE653.out) | exact HB.out)⟩
         ·replace c105 := Bool.eq_false_iff.mpr c105
          subst c105; have H1 : (if t665 = true then ((impl_BodyAt.f kj75 t664 (t658.length : Int)).bind fun bt680 => ((impl_CommitOf.f kj75 t659 t660 t661).bind fun bt683 => (if bt680.2.2 = true then (if bt680.2.1 = true then (if bt680.1.toList = t661.toList then (if bt683.2 = true then (if 0 ≤ (t658.length : Int) then (if (t658.length : Int) < (t664.length : Int) then (some (((rd_T40 t664 (t658.length : Int)).f2).toList == bt683.1.toList)) else (none)) else (none)) else (some false)) else (some false)) else (some false)) else (some false)))) else (some true)) = some r := by rw [if_neg (show ¬ (false = true) by decide)] at H; exact H
          clear H; have H := H1; clear H1
          by_cases c106 : t665 = true
          ·subst c106
           have H1 : ((impl_BodyAt.f kj75 t664 (t658.length : Int)).bind fun bt680 => ((impl_CommitOf.f kj75 t659 t660 t661).bind fun bt683 => (if bt680.2.2 = true then (if bt680.2.1 = true then (if bt680.1.toList = t661.toList then (if bt683.2 = true then (if 0 ≤ (t658.length : Int) then (if (t658.length : Int) < (t664.length : Int) then (some (((rd_T40 t664 (t658.length : Int)).f2).toList == bt683.1.toList)) else (none)) else (none)) else (some false)) else (some false)) else (some false)) else (some false)))) = some r := by rw [if_pos rfl] at H; exact H
           clear H; have H := H1; clear H1; replace H := zAF H; obtain ⟨⟨t680, t681, t682⟩, A1070, H⟩ := H; replace H : ((impl_CommitOf.f kj75 t659 t660 t661).bind fun bt683 => (if t682 = true then (if t681 = true then (if t680.toList = t661.toList then (if bt683.2 = true then (if 0 ≤ (t658.length : Int) then (if (t658.length : Int) < (t664.length : Int) then (some (((rd_T40 t664 (t658.length : Int)).f2).toList == bt683.1.toList)) else (none)) else (none)) else (some false)) else (some false)) else (some false)) else (some false))) = some r := H; have A107 := zA A1070; clear A1070; replace H := zAF H; obtain ⟨⟨t683, t684⟩, A1080, H⟩ := H; replace H : (if t682 = true then (if t681 = true then (if t680.toList = t661.toList then (if t684 = true then (if 0 ≤ (t658.length : Int) then (if (t658.length : Int) < (t664.length : Int) then (some (((rd_T40 t664 (t658.length : Int)).f2).toList == t683.toList)) else (none)) else (none)) else (some false)) else (some false)) else (some false)) else (some false)) = some r := H; have A108 := zA A1080; clear A1080
           by_cases c109 : t682 = true
           ·subst c109
            have H1 : (if t681 = true then (if t680.toList = t661.toList then (if t684 = true then (if 0 ≤ (t658.length : Int) then (if (t658.length : Int) < (t664.length : Int) then (some (((rd_T40 t664 (t658.length : Int)).f2).toList == t683.toList)) else (none)) else (none)) else (some false)) else (some false)) else (some false)) = some r := by rw [if_pos rfl] at H; exact H
            clear H; have H := H1; clear H1
            by_cases c110 : t681 = true
            ·subst c110
             have H1 : (if t680.toList = t661.toList then (if t684 = true then (if 0 ≤ (t658.length : Int) then (if (t658.length : Int) < (t664.length : Int) then (some (((rd_T40 t664 (t658.length : Int)).f2).toList == t683.toList)) else (none)) else (none)) else (some false)) else (some false)) = some r := by rw [if_pos rfl] at H; exact H
             clear H; have H := H1; clear H1
             by_cases c111 : t680.toList = t661.toList
             ·rw [if_pos c111] at H
              have c111b0 : (t680.toList == t661.toList) = true := beq_iff_eq.mpr c111; have c111b1 : (t680.toList != t661.toList) = false := bne_eq_false_iff_eq.mpr c111; clear c111
              by_cases c112 : t684 = true
              ·subst c112
               have H1 : (if 0 ≤ (t658.length : Int) then (if (t658.length : Int) < (t664.length : Int) then (some (((rd_T40 t664 (t658.length : Int)).f2).toList == t683.toList)) else (none)) else (none)) = some r := by rw [if_pos rfl] at H; exact H
               clear H; have H := H1; clear H1
               by_cases c113 : 0 ≤ (t658.length : Int)
               ·rw [if_pos c113] at H
                have c113b0 : decide (0 ≤ (t658.length : Int)) = true := zX c113; have c113b1 : decide (0 ≤ t658.length) = true := zX (by omega); clear c113
                by_cases c114 : (t658.length : Int) < (t664.length : Int)
                ·rw [if_pos c114] at H
                 have c114b0 : decide ((t658.length : Int) < (t664.length : Int)) = true := zX c114; have c114b1 : decide (t658.length < t664.length) = true := zX (Int.ofNat_lt.mp c114); clear c114
                 as_aux_lemma =>
                  obtain rfl := Option.some.inj H; obtain ⟨Ao115, co115, eo115⟩ := Kd.R_slice HO_31.out; subst eo115; go_wp2_with (first | ((with_reducible refine yB (f := 37) rfl ?_); refine goesL_ (some 225) rfl rfl Try.func37 (by kernel_rfl) rfl #[.slice Ao115 t664.length co115, .int .i64 (t658.length : Int)] rfl (by (try simp only [zAA, zAB, zAC]); first | done | rfl | (simp only [zZ, zY]; rfl)) ?_; (with_reducible refine (impl_BodyAt.calls kj75 _ _ t664 (t658.length : Int) t680 true true _ ?side1 ?side2 A107.out).mono ?_); (case side1 => repeat (first | exact (yD HO_31.out).2.2 | (with_reducible refine zT ?_ _) | (with_reducible refine zU ?_ _) | (with_reducible refine zV ?_))); (case side2 => exact (yD HO_31.out).2.1); rintro e w116 ⟨rfl, hb⟩; refine ⟨_, rfl, ?_⟩; have n0_ := zA (Kd.R_below (by (with_reducible repeat first | apply zQ | apply zR | apply zS); exact HO_27.out) hb); have n1_ := zA (Kd.R_below (by (with_reducible repeat first | apply zQ | apply zR | apply zS); exact HO_31.out) hb); have n2_ := zA (yE (g := gb625) (o := .cells #[.string t616, .string t617, .string t618, .string t619, .bool t620] 40 (0, 0)) (by (with_reducible repeat (first | refine zL ?_ _ | refine zN ?_ | refine zM ?_ _)); exact BK625.out) hb); have n3_ := zA (yE (g := gb635) (o := .cells #[.string t626, .string t627, .string t628, .string t629, .bool t630] 40 (0, 0)) (by (with_reducible repeat (first | refine zL ?_ _ | refine zN ?_ | refine zM ?_ _)); exact BK635.out) hb); have n4_ := zA (yE (g := gb653) (o := .cells #[.string t645, .string t646, .string t647, .string t648, .bool t649] 40 (0, 0)) (by (with_reducible repeat (first | refine zL ?_ _ | refine zN ?_ | refine zM ?_ _)); exact BK653.out) hb); have n5_ := zA (zAD (by repeat (first | (with_reducible first | exact HB.out | apply zH | apply zF | apply zG | refine zI ?_ GE625.out | refine zI ?_ GE635.out | refine zI ?_ GE653.out) | exact HB.out)) hb); clear HO_27; clear HO_31; clear BK625; clear BK635; clear BK653; clear HB; have HO_27 := n0_; have HO_31 := n1_; have BK625 := n2_; have BK635 := n3_; have BK653 := n4_; have HB := n5_; clear n0_ n1_ n2_ n3_ n4_ n5_; (try clear hb)) | ((with_reducible refine yB (f := 34) rfl ?_); refine goesL_ (some 233) rfl rfl Try.func34 (by kernel_rfl) rfl #[.string t659, .string t660, .string t661] rfl (by (try simp only [zAA, zAB, zAC]); first | done | rfl) ?_; (with_reducible refine (impl_CommitOf.calls kj75 t659 t660 t661 t683 true _ A108.out).mono ?_); rintro e w117 ⟨rfl, hb⟩; refine ⟨_, rfl, ?_⟩; have n0_ := zA (Kd.R_below (by (with_reducible repeat first | apply zQ | apply zR | apply zS); exact HO_27.out) hb); have n1_ := zA (Kd.R_below (by (with_reducible repeat first | apply zQ | apply zR | apply zS); exact HO_31.out) hb); have n2_ := zA (yE (g := gb625) (o := .cells #[.string t616, .string t617, .string t618, .string t619, .bool t620] 40 (0, 0)) (by (with_reducible repeat (first | refine zL ?_ _ | refine zN ?_ | refine zM ?_ _)); exact BK625.out) hb); have n3_ := zA (yE (g := gb635) (o := .cells #[.string t626, .string t627, .string t628, .string t629, .bool t630] 40 (0, 0)) (by (with_reducible repeat (first | refine zL ?_ _ | refine zN ?_ | refine zM ?_ _)); exact BK635.out) hb); have n4_ := zA (yE (g := gb653) (o := .cells #[.string t645, .string t646, .string t647, .string t648, .bool t649] 40 (0, 0)) (by (with_reducible repeat (first | refine zL ?_ _ | refine zN ?_ | refine zM ?_ _)); exact BK653.out) hb); have n5_ := zA (zAD (by repeat (first | (with_reducible first | exact HB.out | apply zH | apply zF | apply zG | refine zI ?_ GE625.out | refine zI ?_ GE635.out | refine zI ?_ GE653.out) | exact HB.out)) hb); clear HO_27; clear HO_31; clear BK625; clear BK635; clear BK653; clear HB; have HO_27 := n0_; have HO_31 := n1_; have BK625 := n2_; have BK635 := n3_; have BK653 := n4_; have HB := n5_; clear n0_ n1_ n2_ n3_ n4_ n5_; (try clear hb); have p685 : 0 ≤ ((t658.length : Int) : Int) := zW (by first | (with_reducible assumption) | assumption); have q685 : (t658.length : Int) < (t664.length : Int) := zW (by first | (with_reducible assumption) | assumption); obtain ⟨ad685, e685, hx685_0, hx685_1, hx685_2, hx685_3, hx685_4⟩ := at_T40 (yD HO_31.out).2.2 (t658.length : Int) p685 q685; cases e685; (try simp only [Go.IntWalk.toNatUp] at hx685_0); (try simp only [Go.IntWalk.toNatUp] at hx685_1); (try simp only [Go.IntWalk.toNatUp] at hx685_2); (try simp only [Go.IntWalk.toNatUp] at hx685_3); (try simp only [Go.IntWalk.toNatUp] at hx685_4); replace p685 := eq_true p685; replace q685 := eq_true q685)); go_ret; exact ⟨by first | rfl | (simp <;> rfl) | (simp [*] <;> rfl), by repeat (first | (with_reducible first | exact HB.out | apply zH | apply zF | apply zG | refine zI ?_ GE625.out | refine zI ?_ GE635.out | refine zI ?_ GE653.out) | exact HB.out)⟩
                ·rw [if_neg c114] at H
                 exact absurd H (by simp)
               ·rw [if_neg c113] at H
                exact absurd H (by simp)
              ·replace c112 := Bool.eq_false_iff.mpr c112
               subst c112; have H1 : (some false) = some r := by rw [if_neg (show ¬ (false = true) by decide)] at H; exact H
               clear H; have H := H1; clear H1
               as_aux_lemma =>
                obtain rfl := Option.some.inj H; obtain ⟨Ao118, co118, eo118⟩ := Kd.R_slice HO_31.out; subst eo118; go_wp2_with (first | ((with_reducible refine yB (f := 37) rfl ?_); refine goesL_ (some 225) rfl rfl Try.func37 (by kernel_rfl) rfl #[.slice Ao118 t664.length co118, .int .i64 (t658.length : Int)] rfl (by (try simp only [zAA, zAB, zAC]); first | done | rfl | (simp only [zZ, zY]; rfl)) ?_; (with_reducible refine (impl_BodyAt.calls kj75 _ _ t664 (t658.length : Int) t680 true true _ ?side1 ?side2 A107.out).mono ?_); (case side1 => repeat (first | exact (yD HO_31.out).2.2 | (with_reducible refine zT ?_ _) | (with_reducible refine zU ?_ _) | (with_reducible refine zV ?_))); (case side2 => exact (yD HO_31.out).2.1); rintro e w119 ⟨rfl, hb⟩; refine ⟨_, rfl, ?_⟩; have n0_ := zA (Kd.R_below (by (with_reducible repeat first | apply zQ | apply zR | apply zS); exact HO_27.out) hb); have n1_ := zA (Kd.R_below (by (with_reducible repeat first | apply zQ | apply zR | apply zS); exact HO_31.out) hb); have n2_ := zA (yE (g := gb625) (o := .cells #[.string t616, .string t617, .string t618, .string t619, .bool t620] 40 (0, 0)) (by (with_reducible repeat (first | refine zL ?_ _ | refine zN ?_ | refine zM ?_ _)); exact BK625.out) hb); have n3_ := zA (yE (g := gb635) (o := .cells #[.string t626, .string t627, .string t628, .string t629, .bool t630] 40 (0, 0)) (by (with_reducible repeat (first | refine zL ?_ _ | refine zN ?_ | refine zM ?_ _)); exact BK635.out) hb); have n4_ := zA (yE (g := gb653) (o := .cells #[.string t645, .string t646, .string t647, .string t648, .bool t649] 40 (0, 0)) (by (with_reducible repeat (first | refine zL ?_ _ | refine zN ?_ | refine zM ?_ _)); exact BK653.out) hb); have n5_ := zA (zAD (by repeat (first | (with_reducible first | exact HB.out | apply zH | apply zF | apply zG | refine zI ?_ GE625.out | refine zI ?_ GE635.out | refine zI ?_ GE653.out) | exact HB.out)) hb); clear HO_27; clear HO_31; clear BK625; clear BK635; clear BK653; clear HB; have HO_27 := n0_; have HO_31 := n1_; have BK625 := n2_; have BK635 := n3_; have BK653 := n4_; have HB := n5_; clear n0_ n1_ n2_ n3_ n4_ n5_; (try clear hb)) | ((with_reducible refine yB (f := 34) rfl ?_); refine goesL_ (some 233) rfl rfl Try.func34 (by kernel_rfl) rfl #[.string t659, .string t660, .string t661] rfl (by (try simp only [zAA, zAB, zAC]); first | done | rfl) ?_; (with_reducible refine (impl_CommitOf.calls kj75 t659 t660 t661 t683 false _ A108.out).mono ?_); rintro e w120 ⟨rfl, hb⟩; refine ⟨_, rfl, ?_⟩; have n0_ := zA (Kd.R_below (by (with_reducible repeat first | apply zQ | apply zR | apply zS); exact HO_27.out) hb); have n1_ := zA (Kd.R_below (by (with_reducible repeat first | apply zQ | apply zR | apply zS); exact HO_31.out) hb); have n2_ := zA (yE (g := gb625) (o := .cells #[.string t616, .string t617, .string t618, .string t619, .bool t620] 40 (0, 0)) (by (with_reducible repeat (first | refine zL ?_ _ | refine zN ?_ | refine zM ?_ _)); exact BK625.out) hb); have n3_ := zA (yE (g := gb635) (o := .cells #[.string t626, .string t627, .string t628, .string t629, .bool t630] 40 (0, 0)) (by (with_reducible repeat (first | refine zL ?_ _ | refine zN ?_ | refine zM ?_ _)); exact BK635.out) hb); have n4_ := zA (yE (g := gb653) (o := .cells #[.string t645, .string t646, .string t647, .string t648, .bool t649] 40 (0, 0)) (by (with_reducible repeat (first | refine zL ?_ _ | refine zN ?_ | refine zM ?_ _)); exact BK653.out) hb); have n5_ := zA (zAD (by repeat (first | (with_reducible first | exact HB.out | apply zH | apply zF | apply zG | refine zI ?_ GE625.out | refine zI ?_ GE635.out | refine zI ?_ GE653.out) | exact HB.out)) hb); clear HO_27; clear HO_31; clear BK625; clear BK635; clear BK653; clear HB; have HO_27 := n0_; have HO_31 := n1_; have BK625 := n2_; have BK635 := n3_; have BK653 := n4_; have HB := n5_; clear n0_ n1_ n2_ n3_ n4_ n5_; (try clear hb))); go_ret; exact ⟨by first | rfl | (simp <;> rfl) | (simp [*] <;> rfl), by repeat (first | (with_reducible first | exact HB.out | apply zH | apply zF | apply zG | refine zI ?_ GE625.out | refine zI ?_ GE635.out | refine zI ?_ GE653.out) | exact HB.out)⟩
             ·rw [if_neg c111] at H
              have c111b0 : (t680.toList == t661.toList) = false := beq_eq_false_iff_ne.mpr c111; have c111b1 : (t680.toList != t661.toList) = true := bne_iff_ne.mpr c111
              as_aux_lemma =>
               obtain rfl := Option.some.inj H; obtain ⟨Ao121, co121, eo121⟩ := Kd.R_slice HO_31.out; subst eo121; go_wp2_with (first | ((with_reducible refine yB (f := 37) rfl ?_); refine goesL_ (some 225) rfl rfl Try.func37 (by kernel_rfl) rfl #[.slice Ao121 t664.length co121, .int .i64 (t658.length : Int)] rfl (by (try simp only [zAA, zAB, zAC]); first | done | rfl | (simp only [zZ, zY]; rfl)) ?_; (with_reducible refine (impl_BodyAt.calls kj75 _ _ t664 (t658.length : Int) t680 true true _ ?side1 ?side2 A107.out).mono ?_); (case side1 => repeat (first | exact (yD HO_31.out).2.2 | (with_reducible refine zT ?_ _) | (with_reducible refine zU ?_ _) | (with_reducible refine zV ?_))); (case side2 => exact (yD HO_31.out).2.1); rintro e w122 ⟨rfl, hb⟩; refine ⟨_, rfl, ?_⟩; have n0_ := zA (Kd.R_below (by (with_reducible repeat first | apply zQ | apply zR | apply zS); exact HO_27.out) hb); have n1_ := zA (Kd.R_below (by (with_reducible repeat first | apply zQ | apply zR | apply zS); exact HO_31.out) hb); have n2_ := zA (yE (g := gb625) (o := .cells #[.string t616, .string t617, .string t618, .string t619, .bool t620] 40 (0, 0)) (by (with_reducible repeat (first | refine zL ?_ _ | refine zN ?_ | refine zM ?_ _)); exact BK625.out) hb); have n3_ := zA (yE (g := gb635) (o := .cells #[.string t626, .string t627, .string t628, .string t629, .bool t630] 40 (0, 0)) (by (with_reducible repeat (first | refine zL ?_ _ | refine zN ?_ | refine zM ?_ _)); exact BK635.out) hb); have n4_ := zA (yE (g := gb653) (o := .cells #[.string t645, .string t646, .string t647, .string t648, .bool t649] 40 (0, 0)) (by (with_reducible repeat (first | refine zL ?_ _ | refine zN ?_ | refine zM ?_ _)); exact BK653.out) hb); have n5_ := zA (zAD (by repeat (first | (with_reducible first | exact HB.out | apply zH | apply zF | apply zG | refine zI ?_ GE625.out | refine zI ?_ GE635.out | refine zI ?_ GE653.out) | exact HB.out)) hb); clear HO_27; clear HO_31; clear BK625; clear BK635; clear BK653; clear HB; have HO_27 := n0_; have HO_31 := n1_; have BK625 := n2_; have BK635 := n3_; have BK653 := n4_; have HB := n5_; clear n0_ n1_ n2_ n3_ n4_ n5_; (try clear hb)) | ((with_reducible refine yB (f := 34) rfl ?_); refine goesL_ (some 233) rfl rfl Try.func34 (by kernel_rfl) rfl #[.string t659, .string t660, .string t661] rfl (by (try simp only [zAA, zAB, zAC]); first | done | rfl) ?_; (with_reducible refine (impl_CommitOf.calls kj75 t659 t660 t661 t683 t684 _ A108.out).mono ?_); rintro e w123 ⟨rfl, hb⟩; refine ⟨_, rfl, ?_⟩; have n0_ := zA (Kd.R_below (by (with_reducible repeat first | apply zQ | apply zR | apply zS); exact HO_27.out) hb); have n1_ := zA (Kd.R_below (by (with_reducible repeat first | apply zQ | apply zR | apply zS); exact HO_31.out) hb); have n2_ := zA (yE (g := gb625) (o := .cells #[.string t616, .string t617, .string t618, .string t619, .bool t620] 40 (0, 0)) (by (with_reducible repeat (first | refine zL ?_ _ | refine zN ?_ | refine zM ?_ _)); exact BK625.out) hb); have n3_ := zA (yE (g := gb635) (o := .cells #[.string t626, .string t627, .string t628, .string t629, .bool t630] 40 (0, 0)) (by (with_reducible repeat (first | refine zL ?_ _ | refine zN ?_ | refine zM ?_ _)); exact BK635.out) hb); have n4_ := zA (yE (g := gb653) (o := .cells #[.string t645, .string t646, .string t647, .string t648, .bool t649] 40 (0, 0)) (by (with_reducible repeat (first | refine zL ?_ _ | refine zN ?_ | refine zM ?_ _)); exact BK653.out) hb); have n5_ := zA (zAD (by repeat (first | (with_reducible first | exact HB.out | apply zH | apply zF | apply zG | refine zI ?_ GE625.out | refine zI ?_ GE635.out | refine zI ?_ GE653.out) | exact HB.out)) hb); clear HO_27; clear HO_31; clear BK625; clear BK635; clear BK653; clear HB; have HO_27 := n0_; have HO_31 := n1_; have BK625 := n2_; have BK635 := n3_; have BK653 := n4_; have HB := n5_; clear n0_ n1_ n2_ n3_ n4_ n5_; (try clear hb))); go_ret; exact ⟨by first | rfl | (simp <;> rfl) | (simp [*] <;> rfl), by repeat (first | (with_reducible first | exact HB.out | apply zH | apply zF | apply zG | refine zI ?_ GE625.out | refine zI ?_ GE635.out | refine zI ?_ GE653.out) | exact HB.out)⟩
            ·replace c110 := Bool.eq_false_iff.mpr c110
             subst c110; have H1 : (some false) = some r := by rw [if_neg (show ¬ (false = true) by decide)] at H; exact H
             clear H; have H := H1; clear H1
             as_aux_lemma =>
              obtain rfl := Option.some.inj H; obtain ⟨Ao124, co124, eo124⟩ := Kd.R_slice HO_31.out; subst eo124; go_wp2_with (first | ((with_reducible refine yB (f := 37) rfl ?_); refine goesL_ (some 225) rfl rfl Try.func37 (by kernel_rfl) rfl #[.slice Ao124 t664.length co124, .int .i64 (t658.length : Int)] rfl (by (try simp only [zAA, zAB, zAC]); first | done | rfl | (simp only [zZ, zY]; rfl)) ?_; (with_reducible refine (impl_BodyAt.calls kj75 _ _ t664 (t658.length : Int) t680 false true _ ?side1 ?side2 A107.out).mono ?_); (case side1 => repeat (first | exact (yD HO_31.out).2.2 | (with_reducible refine zT ?_ _) | (with_reducible refine zU ?_ _) | (with_reducible refine zV ?_))); (case side2 => exact (yD HO_31.out).2.1); rintro e w125 ⟨rfl, hb⟩; refine ⟨_, rfl, ?_⟩; have n0_ := zA (Kd.R_below (by (with_reducible repeat first | apply zQ | apply zR | apply zS); exact HO_27.out) hb); have n1_ := zA (Kd.R_below (by (with_reducible repeat first | apply zQ | apply zR | apply zS); exact HO_31.out) hb); have n2_ := zA (yE (g := gb625) (o := .cells #[.string t616, .string t617, .string t618, .string t619, .bool t620] 40 (0, 0)) (by (with_reducible repeat (first | refine zL ?_ _ | refine zN ?_ | refine zM ?_ _)); exact BK625.out) hb); have n3_ := zA (yE (g := gb635) (o := .cells #[.string t626, .string t627, .string t628, .string t629, .bool t630] 40 (0, 0)) (by (with_reducible repeat (first | refine zL ?_ _ | refine zN ?_ | refine zM ?_ _)); exact BK635.out) hb); have n4_ := zA (yE (g := gb653) (o := .cells #[.string t645, .string t646, .string t647, .string t648, .bool t649] 40 (0, 0)) (by (with_reducible repeat (first | refine zL ?_ _ | refine zN ?_ | refine zM ?_ _)); exact BK653.out) hb); have n5_ := zA (zAD (by repeat (first | (with_reducible first | exact HB.out | apply zH | apply zF | apply zG | refine zI ?_ GE625.out | refine zI ?_ GE635.out | refine zI ?_ GE653.out) | exact HB.out)) hb); clear HO_27; clear HO_31; clear BK625; clear BK635; clear BK653; clear HB; have HO_27 := n0_; have HO_31 := n1_; have BK625 := n2_; have BK635 := n3_; have BK653 := n4_; have HB := n5_; clear n0_ n1_ n2_ n3_ n4_ n5_; (try clear hb)) | ((with_reducible refine yB (f := 34) rfl ?_); refine goesL_ (some 233) rfl rfl Try.func34 (by kernel_rfl) rfl #[.string t659, .string t660, .string t661] rfl (by (try simp only [zAA, zAB, zAC]); first | done | rfl) ?_; (with_reducible refine (impl_CommitOf.calls kj75 t659 t660 t661 t683 t684 _ A108.out).mono ?_); rintro e w126 ⟨rfl, hb⟩; refine ⟨_, rfl, ?_⟩; have n0_ := zA (Kd.R_below (by (with_reducible repeat first | apply zQ | apply zR | apply zS); exact HO_27.out) hb); have n1_ := zA (Kd.R_below (by (with_reducible repeat first | apply zQ | apply zR | apply zS); exact HO_31.out) hb); have n2_ := zA (yE (g := gb625) (o := .cells #[.string t616, .string t617, .string t618, .string t619, .bool t620] 40 (0, 0)) (by (with_reducible repeat (first | refine zL ?_ _ | refine zN ?_ | refine zM ?_ _)); exact BK625.out) hb); have n3_ := zA (yE (g := gb635) (o := .cells #[.string t626, .string t627, .string t628, .string t629, .bool t630] 40 (0, 0)) (by (with_reducible repeat (first | refine zL ?_ _ | refine zN ?_ | refine zM ?_ _)); exact BK635.out) hb); have n4_ := zA (yE (g := gb653) (o := .cells #[.string t645, .string t646, .string t647, .string t648, .bool t649] 40 (0, 0)) (by (with_reducible repeat (first | refine zL ?_ _ | refine zN ?_ | refine zM ?_ _)); exact BK653.out) hb); have n5_ := zA (zAD (by repeat (first | (with_reducible first | exact HB.out | apply zH | apply zF | apply zG | refine zI ?_ GE625.out | refine zI ?_ GE635.out | refine zI ?_ GE653.out) | exact HB.out)) hb); clear HO_27; clear HO_31; clear BK625; clear BK635; clear BK653; clear HB; have HO_27 := n0_; have HO_31 := n1_; have BK625 := n2_; have BK635 := n3_; have BK653 := n4_; have HB := n5_; clear n0_ n1_ n2_ n3_ n4_ n5_; (try clear hb))); go_ret; exact ⟨by first | rfl | (simp <;> rfl) | (simp [*] <;> rfl), by repeat (first | (with_reducible first | exact HB.out | apply zH | apply zF | apply zG | refine zI ?_ GE625.out | refine zI ?_ GE635.out | refine zI ?_ GE653.out) | exact HB.out)⟩
           ·replace c109 := Bool.eq_false_iff.mpr c109
            subst c109; have H1 : (some false) = some r := by rw [if_neg (show ¬ (false = true) by decide)] at H; exact H
            clear H; have H := H1; clear H1
            as_aux_lemma =>
             obtain rfl := Option.some.inj H; obtain ⟨Ao127, co127, eo127⟩ := Kd.R_slice HO_31.out; subst eo127; go_wp2_with (first | ((with_reducible refine yB (f := 37) rfl ?_); refine goesL_ (some 225) rfl rfl Try.func37 (by kernel_rfl) rfl #[.slice Ao127 t664.length co127, .int .i64 (t658.length : Int)] rfl (by (try simp only [zAA, zAB, zAC]); first | done | rfl | (simp only [zZ, zY]; rfl)) ?_; (with_reducible refine (impl_BodyAt.calls kj75 _ _ t664 (t658.length : Int) t680 t681 false _ ?side1 ?side2 A107.out).mono ?_); (case side1 => repeat (first | exact (yD HO_31.out).2.2 | (with_reducible refine zT ?_ _) | (with_reducible refine zU ?_ _) | (with_reducible refine zV ?_))); (case side2 => exact (yD HO_31.out).2.1); rintro e w128 ⟨rfl, hb⟩; refine ⟨_, rfl, ?_⟩; have n0_ := zA (Kd.R_below (by (with_reducible repeat first | apply zQ | apply zR | apply zS); exact HO_27.out) hb); have n1_ := zA (Kd.R_below (by (with_reducible repeat first | apply zQ | apply zR | apply zS); exact HO_31.out) hb); have n2_ := zA (yE (g := gb625) (o := .cells #[.string t616, .string t617, .string t618, .string t619, .bool t620] 40 (0, 0)) (by (with_reducible repeat (first | refine zL ?_ _ | refine zN ?_ | refine zM ?_ _)); exact BK625.out) hb); have n3_ := zA (yE (g := gb635) (o := .cells #[.string t626, .string t627, .string t628, .string t629, .bool t630] 40 (0, 0)) (by (with_reducible repeat (first | refine zL ?_ _ | refine zN ?_ | refine zM ?_ _)); exact BK635.out) hb); have n4_ := zA (yE (g := gb653) (o := .cells #[.string t645, .string t646, .string t647, .string t648, .bool t649] 40 (0, 0)) (by (with_reducible repeat (first | refine zL ?_ _ | refine zN ?_ | refine zM ?_ _)); exact BK653.out) hb); have n5_ := zA (zAD (by repeat (first | (with_reducible first | exact HB.out | apply zH | apply zF | apply zG | refine zI ?_ GE625.out | refine zI ?_ GE635.out | refine zI ?_ GE653.out) | exact HB.out)) hb); clear HO_27; clear HO_31; clear BK625; clear BK635; clear BK653; clear HB; have HO_27 := n0_; have HO_31 := n1_; have BK625 := n2_; have BK635 := n3_; have BK653 := n4_; have HB := n5_; clear n0_ n1_ n2_ n3_ n4_ n5_; (try clear hb)) | ((with_reducible refine yB (f := 34) rfl ?_); refine goesL_ (some 233) rfl rfl Try.func34 (by kernel_rfl) rfl #[.string t659, .string t660, .string t661] rfl (by (try simp only [zAA, zAB, zAC]); first | done | rfl) ?_; (with_reducible refine (impl_CommitOf.calls kj75 t659 t660 t661 t683 t684 _ A108.out).mono ?_); rintro e w129 ⟨rfl, hb⟩; refine ⟨_, rfl, ?_⟩; have n0_ := zA (Kd.R_below (by (with_reducible repeat first | apply zQ | apply zR | apply zS); exact HO_27.out) hb); have n1_ := zA (Kd.R_below (by (with_reducible repeat first | apply zQ | apply zR | apply zS); exact HO_31.out) hb); have n2_ := zA (yE (g := gb625) (o := .cells #[.string t616, .string t617, .string t618, .string t619, .bool t620] 40 (0, 0)) (by (with_reducible repeat (first | refine zL ?_ _ | refine zN ?_ | refine zM ?_ _)); exact BK625.out) hb); have n3_ := zA (yE (g := gb635) (o := .cells #[.string t626, .string t627, .string t628, .string t629, .bool t630] 40 (0, 0)) (by (with_reducible repeat (first | refine zL ?_ _ | refine zN ?_ | refine zM ?_ _)); exact BK635.out) hb); have n4_ := zA (yE (g := gb653) (o := .cells #[.string t645, .string t646, .string t647, .string t648, .bool t649] 40 (0, 0)) (by (with_reducible repeat (first | refine zL ?_ _ | refine zN ?_ | refine zM ?_ _)); exact BK653.out) hb); have n5_ := zA (zAD (by repeat (first | (with_reducible first | exact HB.out | apply zH | apply zF | apply zG | refine zI ?_ GE625.out | refine zI ?_ GE635.out | refine zI ?_ GE653.out) | exact HB.out)) hb); clear HO_27; clear HO_31; clear BK625; clear BK635; clear BK653; clear HB; have HO_27 := n0_; have HO_31 := n1_; have BK625 := n2_; have BK635 := n3_; have BK653 := n4_; have HB := n5_; clear n0_ n1_ n2_ n3_ n4_ n5_; (try clear hb))); go_ret; exact ⟨by first | rfl | (simp <;> rfl) | (simp [*] <;> rfl), by repeat (first | (with_reducible first | exact HB.out | apply zH | apply zF | apply zG | refine zI ?_ GE625.out | refine zI ?_ GE635.out | refine zI ?_ GE653.out) | exact HB.out)⟩
          ·replace c106 := Bool.eq_false_iff.mpr c106
           subst c106; have H1 : (some true) = some r := by rw [if_neg (show ¬ (false = true) by decide)] at H; exact H
           clear H; have H := H1; clear H1
           as_aux_lemma =>
            obtain rfl := Option.some.inj H; go_wp2; go_ret; exact ⟨by first | rfl | (simp <;> rfl) | (simp [*] <;> rfl), by repeat (first | (with_reducible first | exact HB.out | apply zH | apply zF | apply zG | refine zI ?_ GE625.out | refine zI ?_ GE635.out | refine zI ?_ GE653.out) | exact HB.out)⟩
def laws_FnShelf.Pure : Prop := ∀ (l0 : List Int) (l1 : List Int), l0.length ≤ maxLen → l0.length * 1 ≤ 140737488351232 → (∀ x ∈ l0, (Lit.int .u8 x).wf = true) → l1.length ≤ maxLen → l1.length * 1 ≤ 140737488351232 → (∀ x ∈ l1, (Lit.int .u8 x).wf = true) → ∃ k, laws_FnShelf.f k l0 l1 = some true
theorem laws_FnShelf.walk (P : laws_FnShelf.Pure) (a0 : Option Addr) (len0 cap0 : Nat) (z0 : List Int) (a1 : Option Addr) (len1 cap1 : Nat) (z1 : List Int) (w : World) (w0 : (a0 = none ∧ len0 = 0 ∧ cap0 = 0 ∧ z0 = []) ∨ ∃ x, a0 = some x ∧ len0 ≤ cap0 ∧ cap0 ≤ maxLen ∧ z0.length = cap0 ∧ (∀ i, i < z0.length → w.cell? (x.add i) = some (.int .u8 (z0.getD i 0))) ∧ ∀ n ∈ z0, (Lit.int .u8 n).wf = true) (y0 : len0 * 1 ≤ 140737488351232) (w1 : (a1 = none ∧ len1 = 0 ∧ cap1 = 0 ∧ z1 = []) ∨ ∃ x, a1 = some x ∧ len1 ≤ cap1 ∧ cap1 ≤ maxLen ∧ z1.length = cap1 ∧ (∀ i, i < z1.length → w.cell? (x.add i) = some (.int .u8 (z1.getD i 0))) ∧ ∀ n ∈ z1, (Lit.int .u8 n).wf = true) (y1 : len1 * 1 ≤ 140737488351232) :
  Calls Try.prog 4 #[.slice a0 len0 cap0, .slice a1 len1 cap1] w fun e w' => e = .returned (.bool true) ∧ Below w.heap.size w w' := by
 obtain ⟨l0, rfl, hr0, hm0, hw0, hc0⟩ := ReadsInt.ofRowC w0; obtain ⟨l1, rfl, hr1, hm1, hw1, hc1⟩ := ReadsInt.ofRowC w1; obtain ⟨k, h⟩ := P l0 l1 hm0 y0 hw0 hm1 y1 hw1; refine (laws_FnShelf.calls k _ _ l0 _ _ l1 true w (Kd.C_of_reads (d := (0 : Int)) (h1 := fun _ => rfl) hr0) hc0 (Kd.C_of_reads (d := (0 : Int)) (h1 := fun _ => rfl) hr1) hc1 h).mono ?_; rintro e w' ⟨rfl, hd⟩; exact ⟨rfl, hd⟩
end Go.Proofs.Ythhkkhnjkoacnaa.PA
end
section
namespace Go.Proofs.Ythhkkhnjkoacnaa.PA



















end Go.Proofs.Ythhkkhnjkoacnaa.PA
end
section
namespace Go.Proofs.Ythhkkhnjkoacnaa.PB
open Go.RowKit Go.Proofs.YthhkkhnjkoacnaaW.PrintWords Go.Proofs.YthhkkhnjkoacnaaW.PrintLast Go.Proofs.YthhkkhnjkoacnaaW.PrintMore
set_option linter.unusedVariables false
theorem ev_pos {α : Type} {c : Prop} [Decidable c] {f g : Nat → Option α} {r : α} (hc : c) (h : Ev f r) : Ev (fun k => if c then f k else g k) r := by
 simp only [if_pos hc]; exact h
theorem ev_neg {α : Type} {c : Prop} [Decidable c] {f g : Nat → Option α} {r : α} (hc : ¬ c) (h : Ev g r) : Ev (fun k => if c then f k else g k) r := by
 simp only [if_neg hc]; exact h
theorem ev_bind {α β : Type} {g : Nat → Option α} {f : Nat → α → Option β} {a : α} {r : β} (h : Ev g a) (k : Ev (fun n => f n a) r) : Ev (fun n => (g n).bind (f n)) r := Ev.bind h k
theorem ev_const {α β : Type} {o : Option α} {f : Nat → α → Option β} {a : α} {r : β} (h : o = some a) (k : Ev (fun n => f n a) r) : Ev (fun n => o.bind (f n)) r := by
 subst h; exact k
theorem ev_of_eq {α : Type} {o : Option α} {r : α} (h : o = some r) : Ev (fun _ => o) r := by subst h; exact Ev.now r
theorem ev_eq {α : Type} {f : Nat → Option α} {r r' : α} (h : Ev f r) (e : r = r') : Ev f r' := e ▸ h
theorem ev_unique {α : Type} {f : Nat → Option α} {r r' : α} (h : Ev f r) (h' : Ev f r') : r = r' := by
 obtain ⟨K, h⟩ := h
 obtain ⟨K', h'⟩ := h'
 have := (h (max K K') (by omega)).symm.trans (h' (max K K') (by omega))
 simpa using this
theorem w64 {x : Int} (h0 : -9223372036854775808 ≤ x) (h1 : x ≤ 9223372036854775807) : wrap64 x = x := by
 unfold wrap64; omega
theorem ba_ext {a b : ByteArray} (h : a.toList = b.toList) : a = b := by
 rw [ByteArray.toList_eq, ByteArray.toList_eq] at h
 have h' : a.data = b.data := Array.toList_inj.mp h
 cases a; cases b; simp_all
theorem ba_iff {a b : ByteArray} : a.toList = b.toList ↔ a = b := ⟨ba_ext, fun h => by rw [h]⟩
theorem ba_beq {a b : ByteArray} : (a.toList == b.toList) = decide (a = b) := by
 by_cases h : a = b
 ·subst h; simp
 ·simp [h, ba_iff]
theorem size_toList (s : ByteArray) : s.toList.length = s.size := by rw [ByteArray.toList_eq]; exact data_length s
theorem bt_get (s : ByteArray) (i : Nat) (h : i < s.size) : bt s (i : Int) = ((s.toList.getD i 0).toNat : Int) := by
 rw [ByteArray.toList_eq]
 unfold bt
 rw [dif_pos (by simpa using h)]
 have h' : i < s.data.toList.length := by rw [data_length]; exact h
 simp [List.getD_eq_getElem?_getD, List.getElem?_eq_getElem h']
 rfl
end Go.Proofs.Ythhkkhnjkoacnaa.PB
end
section
namespace Go.Proofs.Ythhkkhnjkoacnaa.PD
open Go.RowKit Go.Proofs.YthhkkhnjkoacnaaW.PrintWords Go.Proofs.YthhkkhnjkoacnaaW.PrintLast Go.Proofs.YthhkkhnjkoacnaaW.PrintMore Go.Proofs.Ythhkkhnjkoacnaa.PB Go.Proofs.Ythhkkhnjkoacnaa.PA
set_option linter.unusedVariables false
def dstep (p : Int × Int) (c : UInt8) : Int × Int := ((p.1 + (c.toNat : Int)) % 65521, (p.2 + (p.1 + (c.toNat : Int)) % 65521) % 65521)
def dfold (p : Int × Int) (l : List UInt8) : Int × Int := l.foldl dstep p
def InP (p : Int × Int) : Prop := 0 ≤ p.1 ∧ p.1 < 65521 ∧ 0 ≤ p.2 ∧ p.2 < 65521
theorem dstep_in {p : Int × Int} {c : UInt8} : InP (dstep p c) := by
 unfold InP dstep; refine ⟨?_, ?_, ?_, ?_⟩ <;> simp only <;> omega
theorem dfold_in {p : Int × Int} (h : InP p) (l : List UInt8) : InP (dfold p l) := by
 induction l generalizing p with
 | nil => exact h
 | cons c l ih => exact ih dstep_in
def four (p : Int × Int) : ByteArray := strOfNums [p.2 / 256 % 256, p.2 % 256, p.1 / 256 % 256, p.1 % 256]
def dig (kind : Int) (s : ByteArray) : ByteArray := four (dfold (kind + 1, kind + 1) s.toList)
theorem four_size (p : Int × Int) : (four p).size = 4 := by unfold four; rw [strOfNums_size]; rfl
theorem dig_size (kind : Int) (s : ByteArray) : (dig kind s).size = 4 := four_size _
theorem drop_at (l : List UInt8) (i : Nat) (h : i < l.length) : l.drop i = l.getD i 0 :: l.drop (i + 1) := by
 rw [List.drop_eq_getElem_cons h]; simp [List.getD_eq_getElem?_getD, List.getElem?_eq_getElem h]
theorem step_arith {A B : Int} {c : Nat} (hA : 0 ≤ A ∧ A < 65521 ∧ 0 ≤ B ∧ B < 65521) (hc : c < 256) :
  Int.tmod (wrap64 (A + wrap64 (c : Int))) 65521 = (A + (c : Int)) % 65521 ∧ Int.tmod (wrap64 (B + (A + (c : Int)) % 65521)) 65521 = (B + (A + (c : Int)) % 65521) % 65521 := by
 have h1 : wrap64 (c : Int) = c := w64 (by omega) (by omega)
 have h2 : wrap64 (A + c) = A + c := w64 (by omega) (by omega)
 have h3 : wrap64 (B + (A + (c : Int)) % 65521) = B + (A + (c : Int)) % 65521 := w64 (by omega) (by omega)
 rw [h1, h2, h3, Int.tmod_eq_emod_of_nonneg (by omega), Int.tmod_eq_emod_of_nonneg (by omega)]
 exact ⟨rfl, rfl⟩
theorem feed_spec (s : ByteArray) (hs : s.size ≤ 1000000000000) (L : Int) (hL : 0 ≤ L ∧ L ≤ 1000000000000) : ∀ (d i : Nat) (A B : Int), i + d = s.size → InP (A, B) →
  Ev (fun k => spec_l1Feed.l0 k s (i : Int) A B L) ((dfold (A, B) (s.toList.drop i)).1, (dfold (A, B) (s.toList.drop i)).2, L + s.size) := by
 intro d
 induction d with
 | zero =>
  intro i A B hi hp
  refine Ev.step (f := fun _ => some (A, B, wrap64 (L + (s.size : Int)))) (fun k => ?_) ?_
  ·simp only [spec_l1Feed.l0]; rw [if_neg (by omega)]
  ·rw [List.drop_eq_nil_of_le (by rw [size_toList]; omega)]
   rw [w64 (by omega) (by omega)]
   exact Ev.now _
 | succ d ih =>
  intro i A B hi hp
  have hlt : i < s.size := by omega
  have hb := bt_get s i hlt
  have hc : (s.toList.getD i 0).toNat < 256 := UInt8.toNat_lt _
  have ha := step_arith (A := A) (B := B) hp hc
  refine Ev.step (f := fun k => spec_l1Feed.l0 k s ((i + 1 : Nat) : Int) (dstep (A, B) (s.toList.getD i 0)).1 (dstep (A, B) (s.toList.getD i 0)).2 L) (fun k => ?_) ?_
  ·simp only [spec_l1Feed.l0]; rw [if_pos (by omega), if_pos (by omega), hb, ha.1, ha.2, w64 (x := (i : Int) + 1) (by omega) (by omega)]
   simp only [dstep]
   congr 1
  ·rw [drop_at _ _ (by rw [size_toList]; exact hlt)]
   exact ih (i + 1) _ _ (by omega) dstep_in
theorem feed_impl (s : ByteArray) (hs : s.size ≤ 1000000000000) (L : Int) (hL : 0 ≤ L ∧ L ≤ 1000000000000) : ∀ (d i : Nat) (A B : Int), i + d = s.size → InP (A, B) →
  Ev (fun k => impl_Mix_feed.l0 k s (s.size : Int) (i : Int) A B L) ((dfold (A, B) (s.toList.drop i)).1, (dfold (A, B) (s.toList.drop i)).2, L + s.size) := by
 intro d
 induction d with
 | zero =>
  intro i A B hi hp
  refine Ev.step (f := fun _ => some (A, B, wrap64 (L + (s.size : Int)))) (fun k => ?_) ?_
  ·simp only [impl_Mix_feed.l0]; rw [if_neg (by omega)]
  ·rw [List.drop_eq_nil_of_le (by rw [size_toList]; omega)]
   rw [w64 (by omega) (by omega)]
   exact Ev.now _
 | succ d ih =>
  intro i A B hi hp
  have hlt : i < s.size := by omega
  have hb := bt_get s i hlt
  have hc : (s.toList.getD i 0).toNat < 256 := UInt8.toNat_lt _
  have ha := step_arith (A := A) (B := B) hp hc
  refine Ev.step (f := fun k => impl_Mix_feed.l0 k s (s.size : Int) ((i + 1 : Nat) : Int) (dstep (A, B) (s.toList.getD i 0)).1 (dstep (A, B) (s.toList.getD i 0)).2 L) (fun k => ?_) ?_
  ·simp only [impl_Mix_feed.l0]; rw [if_pos (by omega), if_pos (by omega), if_pos (by omega), hb, ha.1, ha.2, w64 (x := (i : Int) + 1) (by omega) (by omega)]
   simp only [dstep]
   congr 1
  ·rw [drop_at _ _ (by rw [size_toList]; exact hlt)]
   exact ih (i + 1) _ _ (by omega) dstep_in
def Kd_ (c : Int) : Prop := 97 ≤ c ∧ c ≤ 122
theorem digS (kind : Int) (hk : Kd_ kind) (s : ByteArray) (hs : s.size ≤ 1000000000000) : Ev (fun k => spec_l1Digest.f k kind s) (dig kind s) := by
 obtain ⟨h0, h1⟩ := hk
 have e1 : spec_NewMix.f kind = some (kind + 1, kind + 1, 0, true) := by
  unfold spec_NewMix.f spec_l1Kind.f
  rw [if_pos (by omega)]
  simp only [Option.bind_some, decide_eq_true h1, if_true]
  rw [w64 (x := kind) (by omega) (by omega), w64 (by omega) (by omega), Int.add_comm]
 have hp : InP (kind + 1, kind + 1) := by unfold InP; refine ⟨?_, ?_, ?_, ?_⟩ <;> simp only <;> omega
 obtain ⟨K, h⟩ := feed_spec s hs 0 (by omega) s.size 0 (kind + 1) (kind + 1) (by omega) hp
 refine ⟨K, fun k hk => ?_⟩
 have h' := h k hk
 dsimp only at h'
 rw [show ((0 : Nat) : Int) = 0 from rfl] at h'
 unfold spec_l1Digest.f spec_l1Feed.f spec_l1End.f
 simp only [e1, Option.bind_some]
 rw [h']
 simp only [Option.bind_some, List.drop_zero]
 rfl
theorem digI (kind : Int) (hk : Kd_ kind) (s : ByteArray) (hs : s.size ≤ 1000000000000) : Ev (fun k => impl_digest.f k kind s) (dig kind s) := by
 obtain ⟨h0, h1⟩ := hk
 have e1 : impl_newMix.f kind = some (kind + 1, kind + 1, 0) := by
  unfold impl_newMix.f
  rw [w64 (x := kind) (by omega) (by omega), w64 (by omega) (by omega)]
 have hp : InP (kind + 1, kind + 1) := by unfold InP; refine ⟨?_, ?_, ?_, ?_⟩ <;> simp only <;> omega
 obtain ⟨K, h⟩ := feed_impl s hs 0 (by omega) s.size 0 (kind + 1) (kind + 1) (by omega) hp
 refine ⟨K, fun k hk => ?_⟩
 have h' := h k hk
 dsimp only at h'
 rw [show ((0 : Nat) : Int) = 0 from rfl] at h'
 have hq := dfold_in hp s.toList
 unfold impl_digest.f impl_Mix_feed.f impl_Mix_end.f
 simp only [e1, Option.bind_some]
 rw [h']
 simp only [Option.bind_some, List.drop_zero]
 unfold dig four
 generalize dfold (kind + 1, kind + 1) s.toList = p at hq ⊢
 obtain ⟨q0, q1, q2, q3⟩ := hq
 rw [Int.tdiv_eq_ediv_of_nonneg q2, Int.tdiv_eq_ediv_of_nonneg q0, Int.tmod_eq_emod_of_nonneg q2, Int.tmod_eq_emod_of_nonneg q0, w64 (x := p.2 / 256) (by omega) (by omega), w64 (x := p.1 / 256) (by omega) (by omega)]
 rw [Int.emod_emod_of_dvd p.2 (Int.dvd_refl _), Int.emod_emod_of_dvd p.1 (Int.dvd_refl _)]
def one (n : Int) : ByteArray := strOfNums [n % 256]
theorem one_size (n : Int) : (one n).size = 1 := by unfold one; rw [strOfNums_size]; rfl
theorem oneI (n : Int) : impl_oneByte.f n = some (one n) := rfl
end Go.Proofs.Ythhkkhnjkoacnaa.PD
end
section
namespace Go.Proofs.Ythhkkhnjkoacnaa.PK
open Go.RowKit Go.Proofs.YthhkkhnjkoacnaaW.PrintWords Go.Proofs.YthhkkhnjkoacnaaW.PrintLast Go.Proofs.YthhkkhnjkoacnaaW.PrintMore Go.Proofs.Ythhkkhnjkoacnaa.PB Go.Proofs.Ythhkkhnjkoacnaa.PD Go.Proofs.Ythhkkhnjkoacnaa.PA
set_option linter.unusedVariables false
theorem app_size (a b : ByteArray) : (a ++ b).size = a.size + b.size := ByteArray.size_append
end Go.Proofs.Ythhkkhnjkoacnaa.PK
end
section
namespace Go.Proofs.Ythhkkhnjkoacnaa.PL
open Go.RowKit Go.Proofs.YthhkkhnjkoacnaaW.PrintWords Go.Proofs.YthhkkhnjkoacnaaW.PrintLast Go.Proofs.YthhkkhnjkoacnaaW.PrintMore Go.Proofs.Ythhkkhnjkoacnaa.PB Go.Proofs.Ythhkkhnjkoacnaa.PA
set_option linter.unusedVariables false
theorem rdOf_at {α : Type} (d : α) (l : List α) (i : Nat) (h : i < l.length) : rdOf d l (i : Int) = l[i] := by
 simp [rdOf, List.getD_eq_getElem?_getD, List.getElem?_eq_getElem h]
def szL : List ByteArray → Nat
 | [] => 0
 | s :: l => s.size + szL l
def total (l : List ByteArray) : Nat := l.length + szL l
end Go.Proofs.Ythhkkhnjkoacnaa.PL
end
section
namespace Go.Proofs.Ythhkkhnjkoacnaa.PS

end Go.Proofs.Ythhkkhnjkoacnaa.PS
end
section
namespace Go.Proofs.Ythhkkhnjkoacnaa.PT
open Go.RowKit Go.Proofs.YthhkkhnjkoacnaaW.PrintWords Go.Proofs.YthhkkhnjkoacnaaW.PrintLast Go.Proofs.YthhkkhnjkoacnaaW.PrintMore Go.Proofs.Ythhkkhnjkoacnaa.PB Go.Proofs.Ythhkkhnjkoacnaa.PD Go.Proofs.Ythhkkhnjkoacnaa.PK Go.Proofs.Ythhkkhnjkoacnaa.PL Go.Proofs.Ythhkkhnjkoacnaa.PS Go.Proofs.Ythhkkhnjkoacnaa.PA
set_option linter.unusedVariables false
theorem inS (a b c : Int) : spec_l1In.f a b c = some (decide (b ≤ a ∧ a ≤ c)) := by
 unfold spec_l1In.f
 by_cases h : a ≥ b
 ·rw [if_pos h]; simp [show b ≤ a from h]
 ·rw [if_neg h]; simp [show ¬ b ≤ a from h]
theorem inI (a b c : Int) : impl_within.f a b c = some (decide (b ≤ a ∧ a ≤ c)) := by
 unfold impl_within.f
 by_cases h : a ≥ b
 ·rw [if_pos h]; simp [show b ≤ a from h]
 ·rw [if_neg h]; simp [show ¬ b ≤ a from h]
end Go.Proofs.Ythhkkhnjkoacnaa.PT
end
section
namespace Go.Proofs.Ythhkkhnjkoacnaa.PU
open Go.RowKit Go.Proofs.YthhkkhnjkoacnaaW.PrintWords Go.Proofs.YthhkkhnjkoacnaaW.PrintLast Go.Proofs.YthhkkhnjkoacnaaW.PrintMore Go.Proofs.Ythhkkhnjkoacnaa.PB Go.Proofs.Ythhkkhnjkoacnaa.PD Go.Proofs.Ythhkkhnjkoacnaa.PK Go.Proofs.Ythhkkhnjkoacnaa.PL Go.Proofs.Ythhkkhnjkoacnaa.PS Go.Proofs.Ythhkkhnjkoacnaa.PT Go.Proofs.Ythhkkhnjkoacnaa.PA
set_option linter.unusedVariables false
theorem idx_any {α : Type} (l : List α) (rf : List α → Int → α) (hrf : ∀ i (h : i < l.length), rf l (i : Int) = l[i]) (L0 : Nat → List α → Int → Int → Option Int) (cl : Nat → α → Option Bool) (p : α → Bool)
  (hstep : ∀ k n i, L0 (k + 1) l n i = if i < n then (if 0 ≤ i then (if i < (l.length : Int) then ((cl k (rf l i)).bind fun t => if t = true then some i else L0 k l n (wrap64 (i + 1))) else none) else none) else some (-1))
  (hp : ∀ x ∈ l, Ev (fun k => cl k x) (p x)) (hl : l.length ≤ 4000000000000000000) : ∃ r, Ev (fun k => L0 k l (l.length : Int) 0) r ∧ decide (r ≥ 0) = l.any p := by
 have key : ∀ (d i : Nat), i + d = l.length → ∃ r, Ev (fun k => L0 k l (l.length : Int) (i : Int)) r ∧ decide (r ≥ 0) = (l.drop i).any p := by
  intro d
  induction d with
  | zero =>
   intro i hi
   refine ⟨-1, Ev.step (f := fun _ => some (-1)) (fun k => ?_) (Ev.now _), ?_⟩
   ·rw [hstep, if_neg (by omega)]
   ·rw [List.drop_eq_nil_of_le (by omega)]; rfl
  | succ d ih =>
   intro i hi
   have hlt : i < l.length := by omega
   have hpx := hp _ (List.getElem_mem hlt)
   rw [List.drop_eq_getElem_cons hlt, List.any_cons]
   have st : ∀ k, L0 (k + 1) l (l.length : Int) (i : Int) = (cl k l[i]).bind fun t => if t = true then some (i : Int) else L0 k l (l.length : Int) ((i + 1 : Nat) : Int) := by
    intro k
    rw [hstep, if_pos (by omega), if_pos (by omega), if_pos (by omega), hrf i hlt, w64 (x := (i : Int) + 1) (by omega) (by omega)]
    rfl
   cases hb : p l[i] with
   | true =>
    rw [hb] at hpx
    refine ⟨(i : Int), Ev.step (f := fun k => (cl k l[i]).bind fun t => if t = true then some (i : Int) else L0 k l (l.length : Int) ((i + 1 : Nat) : Int)) st (ev_bind hpx (ev_pos rfl (Ev.now _))), ?_⟩
    simp only [Bool.true_or]
    exact decide_eq_true (by omega)
   | false =>
    rw [hb] at hpx
    obtain ⟨r, hr, e⟩ := ih (i + 1) (by omega)
    refine ⟨r, Ev.step (f := fun k => (cl k l[i]).bind fun t => if t = true then some (i : Int) else L0 k l (l.length : Int) ((i + 1 : Nat) : Int)) st (ev_bind hpx (ev_neg (by simp) hr)), ?_⟩
    rw [Bool.false_or]; exact e
 obtain ⟨r, hr, e⟩ := key l.length 0 (by omega)
 exact ⟨r, hr, by rw [e, List.drop_zero]⟩
theorem isDigI (s : ByteArray) : impl_isDigest.f s = some (decide (s.size = 4)) := by
 unfold impl_isDigest.f
 refine congrArg some ?_
 by_cases h : s.size = 4
 ·rw [decide_eq_true h, h]; rfl
 ·rw [decide_eq_false h]; exact beq_eq_false_iff_ne.mpr (by omega)
end Go.Proofs.Ythhkkhnjkoacnaa.PU
end
section
namespace Go.Proofs.Ythhkkhnjkoacnaa.PG
open Go.RowKit Go.Proofs.YthhkkhnjkoacnaaW.PrintWords Go.Proofs.YthhkkhnjkoacnaaW.PrintLast Go.Proofs.YthhkkhnjkoacnaaW.PrintMore Go.Proofs.Ythhkkhnjkoacnaa.PB Go.Proofs.Ythhkkhnjkoacnaa.PL
set_option linter.unusedVariables false
theorem loop_up {β : Type} {r : β} (n : Nat) (S : Nat → Nat → Option β) (hend : Ev (S n) r) (hround : ∀ i, i < n → Ev (S (i + 1)) r → Ev (S i) r) : Ev (S 0) r := by
 have key : ∀ d i, i + d = n → Ev (S i) r := by
  intro d
  induction d with
  | zero => intro i hi; rw [show i = n by omega]; exact hend
  | succ d ih => intro i hi; exact hround i (by omega) (ih (i + 1) (by omega))
 exact key n 0 (by omega)
end Go.Proofs.Ythhkkhnjkoacnaa.PG
end
section
namespace Go.Proofs.Ythhkkhnjkoacnaa.PQ
open Go.RowKit Go.Proofs.YthhkkhnjkoacnaaW.PrintWords Go.Proofs.YthhkkhnjkoacnaaW.PrintLast Go.Proofs.YthhkkhnjkoacnaaW.PrintMore Go.Proofs.Ythhkkhnjkoacnaa.PB Go.Proofs.Ythhkkhnjkoacnaa.PD Go.Proofs.Ythhkkhnjkoacnaa.PK Go.Proofs.Ythhkkhnjkoacnaa.PL Go.Proofs.Ythhkkhnjkoacnaa.PS Go.Proofs.Ythhkkhnjkoacnaa.PT Go.Proofs.Ythhkkhnjkoacnaa.PU Go.Proofs.Ythhkkhnjkoacnaa.PG Go.Proofs.Ythhkkhnjkoacnaa.PA
set_option linter.unusedVariables false
def rowFrom : ByteArray → List ByteArray → ByteArray
 | acc, [] => acc
 | acc, s :: l => rowFrom (acc ++ (one (s.size : Int) ++ s)) l
def rowM (l : List ByteArray) : ByteArray := rowFrom ⟨#[]⟩ l
theorem rowFrom_size (l : List ByteArray) : ∀ acc, (rowFrom acc l).size = acc.size + total l := by
 induction l with
 | nil => intro acc; simp [rowFrom, total, szL]
 | cons s l ih =>
  intro acc
  have e : total (s :: l) = 1 + s.size + total l := by simp only [total, szL, List.length_cons]; omega
  rw [show rowFrom acc (s :: l) = rowFrom (acc ++ (one (s.size : Int) ++ s)) l from rfl, ih, app_size, app_size, one_size, e]; omega
theorem rowM_size (l : List ByteArray) : (rowM l).size = total l := by
 unfold rowM; rw [rowFrom_size]; exact Nat.zero_add _
theorem rowS (l : List ByteArray) (hl : total l ≤ 1000000000) : Ev (fun k => spec_l1Row.f k l) (rowM l) := by
 have hlen : l.length ≤ 1000000000 := by unfold total at hl; omega
 have key : ∀ (d i : Nat) (acc : ByteArray), i + d = l.length → acc.size + total (l.drop i) ≤ 2000000000 → Ev (fun k => spec_l1Row.l0 k acc l (l.length : Int) (i : Int)) (rowFrom acc (l.drop i)) := by
  intro d
  induction d with
  | zero =>
   intro i acc hi _
   rw [List.drop_eq_nil_of_le (by omega)]
   refine Ev.step (f := fun _ => some acc) (fun k => ?_) (Ev.now _)
   simp only [spec_l1Row.l0]; rw [if_neg (by omega)]
  | succ d ih =>
   intro i acc hi ha
   have hlt : i < l.length := by omega
   rw [List.drop_eq_getElem_cons hlt] at ha ⊢
   have e : total (l[i] :: l.drop (i + 1)) = 1 + l[i].size + total (l.drop (i + 1)) := by simp only [total, szL, List.length_cons]; omega
   rw [e] at ha
   refine Ev.step (f := fun k => spec_l1Row.l0 k (acc ++ (one (l[i].size : Int) ++ l[i])) l (l.length : Int) ((i + 1 : Nat) : Int)) (fun k => ?_) ?_
   ·simp only [spec_l1Row.l0]
    rw [if_pos (by omega), if_pos (by omega), if_pos (by omega), rdOf_at _ _ _ hlt, w64 (x := (i : Int) + 1) (by omega) (by omega)]
    have e1 : (strOfNums [(l[i].size : Int) % 256]).size = 1 := by rw [strOfNums_size]; rfl
    simp only [Option.bind_some]
    rw [if_pos (by omega), if_pos (by rw [app_size]; omega)]
    rfl
   ·exact ih (i + 1) _ (by omega) (by rw [app_size, app_size, one_size]; omega)
 exact key l.length 0 ⟨#[]⟩ (by omega) (by rw [List.drop_zero]; show 0 + total l ≤ _; omega)
theorem kindI (c : Int) : impl_isKind.f c = some (decide (97 ≤ c ∧ c ≤ 122)) := by
 unfold impl_isKind.f
 by_cases h : c ≥ 97
 ·rw [if_pos h]; simp [show 97 ≤ c from h]
 ·rw [if_neg h]; simp [show ¬ 97 ≤ c from h]
def digestOfM (kind : Int) (s : ByteArray) : ByteArray × Bool := if (97 ≤ kind ∧ kind ≤ 122) ∧ s.size ≤ 600 then (dig kind s, true) else (⟨#[]⟩, false)
theorem digestOfI (kind : Int) (s : ByteArray) : Ev (fun k => impl_DigestOf.f k kind s) (digestOfM kind s) := by
 unfold digestOfM
 by_cases h1 : 97 ≤ kind ∧ kind ≤ 122
 ·by_cases h2 : s.size ≤ 600
  ·rw [if_pos ⟨h1, h2⟩]
   exact ev_const (kindI kind) (ev_pos (decide_eq_true h1) (ev_neg (by omega) (ev_bind (digI kind h1 s (by omega)) (Ev.now _))))
  ·rw [if_neg (fun h => h2 h.2)]
   exact ev_const (kindI kind) (ev_pos (decide_eq_true h1) (ev_pos (by omega) (Ev.now _)))
 ·rw [if_neg (fun h => h1 h.1)]
  exact ev_const (kindI kind) (ev_neg (by simp [h1]) (Ev.now _))
def small (l : List ByteArray) : Bool := l.all fun s => decide (s.size ≤ 100)
def listDigestM (kind : Int) (l : List ByteArray) : ByteArray × Bool := if l.length ≤ 20 then (if small l = true then digestOfM kind (rowM l) else (⟨#[]⟩, false)) else (⟨#[]⟩, false)
theorem listDigestI (kind : Int) (l : List ByteArray) : Ev (fun k => impl_ListDigest.f k kind l) (listDigestM kind l) := by
 unfold listDigestM impl_ListDigest.f
 by_cases hl : l.length ≤ 20
 ·rw [if_pos hl]
  refine ev_neg (by omega) ?_
  have key : ∀ (d i : Nat) (acc : ByteArray), i + d = l.length → acc.size ≤ 101 * i → Ev (fun k => impl_ListDigest.l0 k kind acc l (l.length : Int) (i : Int)) (if small (l.drop i) = true then digestOfM kind (rowFrom acc (l.drop i)) else (⟨#[]⟩, false)) := by
   intro d
   induction d with
   | zero =>
    intro i acc hi _
    rw [List.drop_eq_nil_of_le (by omega), show small [] = true from rfl, if_pos rfl]
    refine Ev.step (f := fun k => (impl_DigestOf.f k kind acc).bind fun b => some (b.1, b.2)) (fun k => ?_) (ev_bind (digestOfI kind acc) (Ev.now _))
    simp only [impl_ListDigest.l0]; rw [if_neg (by omega)]
   | succ d ih =>
    intro i acc hi ha
    have hlt : i < l.length := by omega
    rw [List.drop_eq_getElem_cons hlt]
    by_cases hs : l[i].size ≤ 100
    ·have e0 : small (l[i] :: l.drop (i + 1)) = small (l.drop (i + 1)) := by simp only [small, List.all_cons, decide_eq_true hs, Bool.true_and]
     rw [e0]
     refine Ev.step (f := fun k => impl_ListDigest.l0 k kind (acc ++ (one (l[i].size : Int) ++ l[i])) l (l.length : Int) ((i + 1 : Nat) : Int)) (fun k => ?_) ?_
     ·simp only [impl_ListDigest.l0]
      rw [if_pos (by omega), if_pos (by omega), if_pos (by omega), rdOf_at _ _ _ hlt, if_neg (by omega), oneI, w64 (x := (i : Int) + 1) (by omega) (by omega)]
      simp only [Option.bind_some]
      rw [if_pos (by rw [one_size]; omega), if_pos (by rw [app_size, one_size]; omega)]
      rfl
     ·exact ih (i + 1) _ (by omega) (by rw [app_size, app_size, one_size]; omega)
    ·have e0 : small (l[i] :: l.drop (i + 1)) = false := by simp only [small, List.all_cons, decide_eq_false hs, Bool.false_and]
     rw [e0, if_neg (by simp)]
     refine Ev.step (f := fun _ => some (⟨#[]⟩, false)) (fun k => ?_) (Ev.now _)
     simp only [impl_ListDigest.l0]
     rw [if_pos (by omega), if_pos (by omega), if_pos (by omega), rdOf_at _ _ _ hlt, if_pos (by omega)]
  have := key l.length 0 ⟨#[]⟩ (by omega) (by simp [ByteArray.size])
  rw [List.drop_zero] at this
  exact this
 ·rw [if_neg hl]
  exact ev_pos (by omega) (Ev.now _)
def nameOk (s : ByteArray) : Bool := decide (1 ≤ (s.size : Int) ∧ (s.size : Int) ≤ 8)
theorem nameS (s : ByteArray) : spec_l15Name.f s = some (nameOk s) := by unfold spec_l15Name.f; rw [inS]; rfl
theorem nameI (s : ByteArray) : impl_isName.f s = some (nameOk s) := by unfold impl_isName.f; rw [inI]; rfl
theorem nameOk_size {s : ByteArray} (h : nameOk s = true) : 1 ≤ s.size ∧ s.size ≤ 8 := by
 have := of_decide_eq_true h
 omega
def threeOk (a b c : ByteArray) : Bool := nameOk a && (nameOk b && decide ((c.size : Int) ≤ 40))
def commitM (a b c : ByteArray) : ByteArray := dig 98 (rowM [a, b, c])
theorem kb : Kd_ 98 := ⟨by decide, by decide⟩
theorem total3 {a b c : ByteArray} (h : threeOk a b c = true) : total [a, b, c] ≤ 100 ∧ c.size ≤ 40 ∧ nameOk a = true ∧ nameOk b = true := by
 simp only [threeOk, Bool.and_eq_true, decide_eq_true_eq] at h
 have h1 := nameOk_size h.1
 have h2 := nameOk_size h.2.1
 have h3 := h.2.2
 simp only [total, szL, List.length_cons, List.length_nil]
 exact ⟨by omega, by omega, h.1, h.2.1⟩
theorem goodS (a b c : ByteArray) : spec_l15Good.f a b c = some (threeOk a b c) := by
 unfold spec_l15Good.f threeOk
 rw [nameS, nameS]
 cases ha : nameOk a <;> cases hb : nameOk b <;> rfl
theorem commitS (a b c : ByteArray) (h : threeOk a b c = true) : Ev (fun k => spec_l15Commit.f k a b c) (commitM a b c) := by
 have ht := (total3 h).1
 exact ev_bind (rowS [a, b, c] (by omega)) (ev_bind (digS 98 kb _ (by rw [rowM_size]; omega)) (Ev.now _))
theorem commitI (a b c : ByteArray) : Ev (fun k => impl_CommitOf.f k a b c) (if threeOk a b c = true then (commitM a b c, true) else (⟨#[]⟩, false)) := by
 refine ev_const (nameI a) ?_
 cases ha : nameOk a with
 | false =>
  have e : threeOk a b c = false := by simp [threeOk, ha]
  rw [e, if_neg (by simp)]
  exact ev_neg (by simp) (Ev.now _)
 | true =>
  refine ev_pos rfl (ev_const (nameI b) ?_)
  cases hb : nameOk b with
  | false =>
   have e : threeOk a b c = false := by simp [threeOk, ha, hb]
   rw [e, if_neg (by simp)]
   exact ev_neg (by simp) (Ev.now _)
  | true =>
   refine ev_pos rfl ?_
   by_cases hc : (c.size : Int) ≤ 40
   ·have e : threeOk a b c = true := by simp [threeOk, ha, hb, hc]
    have ht := total3 e
    rw [e, if_pos rfl]
    refine ev_neg (by omega) (ev_bind (listDigestI 98 [a, b, c]) ?_)
    have h1 := nameOk_size ha
    have h2 := nameOk_size hb
    have hsm : small [a, b, c] = true := by
     simp only [small, List.all_cons, List.all_nil, Bool.and_true, Bool.and_eq_true, decide_eq_true_eq]; omega
    have e2 : listDigestM 98 [a, b, c] = (commitM a b c, true) := by
     unfold listDigestM digestOfM
     rw [if_pos (by simp), if_pos hsm, if_pos ⟨by decide, by rw [rowM_size]; omega⟩]; rfl
    rw [e2]
    exact Ev.now _
   ·have e : threeOk a b c = false := by simp [threeOk, ha, hb, hc]
    rw [e, if_neg (by simp)]
    exact ev_pos (by omega) (Ev.now _)
def emptyB (s : ByteArray) : Bool := s.toList == ([] : List UInt8)
def slotOk (a b c d : ByteArray) (o : Bool) : Bool :=
 if o = true then nameOk a && (decide (c.size = 4) && (emptyB b && emptyB d)) else threeOk a b d && decide (c = commitM a b d)
theorem slotS (a b c d : ByteArray) (o : Bool) : Ev (fun k => spec_l15Slot.f k a b c d o) (slotOk a b c d o) := by
 unfold slotOk spec_l15Slot.f
 cases o with
 | true =>
  refine ev_pos rfl (ev_const (nameS a) ?_)
  rw [if_pos rfl]
  cases ha : nameOk a with
  | false => exact ev_neg (by simp) (Ev.now _)
  | true =>
   refine ev_pos rfl ?_
   rw [Bool.true_and]
   by_cases hc : c.size = 4
   ·refine ev_pos (by omega) ?_
    rw [decide_eq_true hc, Bool.true_and]
    by_cases hb : b.toList = ([] : List UInt8)
    ·refine ev_pos hb ?_
     rw [show emptyB b = true from beq_iff_eq.2 hb, Bool.true_and]
     exact Ev.now _
    ·refine ev_neg hb ?_
     rw [show emptyB b = false from beq_eq_false_iff_ne.2 hb, Bool.false_and]
     exact Ev.now _
   ·refine ev_neg (by omega) ?_
    rw [decide_eq_false hc, Bool.false_and]
    exact Ev.now _
 | false =>
  refine ev_neg (by simp) (ev_const (goodS a b d) ?_)
  rw [if_neg (by simp)]
  cases hg : threeOk a b d with
  | false => exact ev_neg (by simp) (Ev.now _)
  | true =>
   refine ev_pos rfl (ev_bind (commitS a b d hg) ?_)
   rw [Bool.true_and]
   refine ev_eq (Ev.now _) ?_
   rw [ba_beq]
theorem slotI (a b c d : ByteArray) (o : Bool) : Ev (fun k => impl_isSlot.f k a b c d o) (slotOk a b c d o) := by
 unfold slotOk impl_isSlot.f
 cases o with
 | true =>
  refine ev_pos rfl (ev_const (nameI a) ?_)
  rw [if_pos rfl]
  cases ha : nameOk a with
  | false => exact ev_neg (by simp) (Ev.now _)
  | true =>
   refine ev_pos rfl (ev_const (isDigI c) ?_)
   rw [Bool.true_and]
   by_cases hc : c.size = 4
   ·refine ev_pos (decide_eq_true hc) ?_
    rw [decide_eq_true hc, Bool.true_and]
    by_cases hb : b.toList = ([] : List UInt8)
    ·refine ev_pos hb ?_
     rw [show emptyB b = true from beq_iff_eq.2 hb, Bool.true_and]
     exact Ev.now _
    ·refine ev_neg hb ?_
     rw [show emptyB b = false from beq_eq_false_iff_ne.2 hb, Bool.false_and]
     exact Ev.now _
   ·refine ev_neg (by simp [hc]) ?_
    rw [decide_eq_false hc, Bool.false_and]
    exact Ev.now _
 | false =>
  show Ev _ (threeOk a b d && decide (c = commitM a b d))
  refine ev_neg (by simp) (ev_bind (commitI a b d) ?_)
  cases hg : threeOk a b d with
  | false => exact ev_neg (by simp) (Ev.now _)
  | true =>
   refine ev_pos rfl ?_
   rw [Bool.true_and]
   refine ev_eq (Ev.now _) ?_
   show ((commitM a b d).toList == c.toList) = _
   rw [ba_beq]
   by_cases h : c = commitM a b d
   ·rw [decide_eq_true h, h]; simp
   ·rw [decide_eq_false h, decide_eq_false (fun e => h e.symm)]
end Go.Proofs.Ythhkkhnjkoacnaa.PQ
end
section
namespace Go.Proofs.Ythhkkhnjkoacnaa.PV
open Go.RowKit Go.Proofs.YthhkkhnjkoacnaaW.PrintWords Go.Proofs.YthhkkhnjkoacnaaW.PrintLast Go.Proofs.YthhkkhnjkoacnaaW.PrintMore Go.Proofs.Ythhkkhnjkoacnaa.PB Go.Proofs.Ythhkkhnjkoacnaa.PD Go.Proofs.Ythhkkhnjkoacnaa.PK Go.Proofs.Ythhkkhnjkoacnaa.PL Go.Proofs.Ythhkkhnjkoacnaa.PS Go.Proofs.Ythhkkhnjkoacnaa.PT Go.Proofs.Ythhkkhnjkoacnaa.PU Go.Proofs.Ythhkkhnjkoacnaa.PG Go.Proofs.Ythhkkhnjkoacnaa.PQ Go.Proofs.Ythhkkhnjkoacnaa.PA
set_option linter.unusedVariables false
theorem rdI_at (l : List S40) (i : Nat) (h : i < l.length) : rd_T40 l (i : Int) = l[i] := by
 simp [rd_T40, List.getD_eq_getElem?_getD, List.getElem?_eq_getElem h]
def slotB (x : S40) : Bool := slotOk x.f0 x.f1 x.f2 x.f3 x.f4
def shelfOk (l : List S40) : Bool := decide ((l.length : Int) ≤ 20) && l.all slotB
theorem goodShelfS (l : List S40) (hl : l.length ≤ 2000000) : Ev (fun k => spec_GoodShelf.f k l) (shelfOk l) := by
 have key : ∀ (d i : Nat), i + d = l.length → Ev (fun k => spec_GoodShelf.l0 k l l (l.length : Int) (i : Int)) (decide ((l.length : Int) ≤ 20) && (l.drop i).all slotB) := by
  intro d
  induction d with
  | zero =>
   intro i hi
   rw [List.drop_eq_nil_of_le (by omega), List.all_nil, Bool.and_true]
   refine Ev.step (f := fun _ => some (decide ((l.length : Int) ≤ 20))) (fun k => ?_) (Ev.now _)
   simp only [spec_GoodShelf.l0]; rw [if_neg (by omega)]
  | succ d ih =>
   intro i hi
   have hlt : i < l.length := by omega
   rw [List.drop_eq_getElem_cons hlt, List.all_cons]
   refine Ev.step (f := fun k => (spec_l15Slot.f k l[i].f0 l[i].f1 l[i].f2 l[i].f3 l[i].f4).bind fun t => if t = true then spec_GoodShelf.l0 k l l (l.length : Int) ((i + 1 : Nat) : Int) else some false) (fun k => ?_) ?_
   ·simp only [spec_GoodShelf.l0]
    rw [if_pos (by omega), if_pos (by omega), if_pos (by omega), rdI_at l i hlt, w64 (x := (i : Int) + 1) (by omega) (by omega)]
    rfl
   ·refine ev_bind (slotS _ _ _ _ _) ?_
    show Ev _ (decide ((l.length : Int) ≤ 20) && (slotB l[i] && _))
    unfold slotB
    cases hb : slotOk l[i].f0 l[i].f1 l[i].f2 l[i].f3 l[i].f4 with
    | true => rw [Bool.true_and]; exact ev_pos rfl (ih (i + 1) (by omega))
    | false => rw [Bool.false_and, Bool.and_false]; exact ev_neg (by simp) (Ev.now _)
 exact key l.length 0 (by omega)
theorem goodShelfI (l : List S40) (hl : l.length ≤ 2000000) : Ev (fun k => impl_GoodShelf.f k l) (shelfOk l) := by
 unfold shelfOk impl_GoodShelf.f
 by_cases h : (l.length : Int) ≤ 20
 ·refine ev_pos h ?_
  rw [decide_eq_true h, Bool.true_and]
  obtain ⟨r, hr, e⟩ := idx_any l rd_T40 (fun i h => rdI_at l i h) slices_IndexFunc_impl_GoodShelf_1.l0 (fun k x => impl_GoodShelf_1.f k x.f0 x.f1 x.f2 x.f3 x.f4) (fun x => !slotB x) (fun k n i => rfl) (fun x _ => ev_bind (f := fun _ t => some (!t)) (slotI _ _ _ _ _) (Ev.now _)) (by omega)
  have hc : Ev (fun k => slices_ContainsFunc_impl_GoodShelf_1.f k l) (l.any fun x => !slotB x) := by
   rw [← e]
   exact ev_bind (f := fun _ t => some (decide (t ≥ 0))) hr (Ev.now _)
  refine ev_eq (ev_bind (f := fun _ t => some (!t)) hc (Ev.now _)) ?_
  have : ∀ l : List S40, (!(l.any fun x => !slotB x)) = l.all slotB := by
   intro l
   induction l with
   | nil => rfl
   | cons a l ih => simp only [List.any_cons, List.all_cons, Bool.not_or, Bool.not_not, ih]
  exact this l
 ·refine ev_neg h ?_
  rw [decide_eq_false h]
  exact Ev.now _
end Go.Proofs.Ythhkkhnjkoacnaa.PV
end
section
namespace Go.Proofs.Ythhkkhnjkoacnaa.PW
open Go.RowKit Go.Proofs.YthhkkhnjkoacnaaW.PrintWords Go.Proofs.YthhkkhnjkoacnaaW.PrintLast Go.Proofs.YthhkkhnjkoacnaaW.PrintMore Go.Proofs.Ythhkkhnjkoacnaa.PB Go.Proofs.Ythhkkhnjkoacnaa.PD Go.Proofs.Ythhkkhnjkoacnaa.PK Go.Proofs.Ythhkkhnjkoacnaa.PL Go.Proofs.Ythhkkhnjkoacnaa.PS Go.Proofs.Ythhkkhnjkoacnaa.PT Go.Proofs.Ythhkkhnjkoacnaa.PU Go.Proofs.Ythhkkhnjkoacnaa.PG Go.Proofs.Ythhkkhnjkoacnaa.PQ Go.Proofs.Ythhkkhnjkoacnaa.PV Go.Proofs.Ythhkkhnjkoacnaa.PA
set_option linter.unusedVariables false
noncomputable def ch (P : Prop) : Bool := @decide P (Classical.propDecidable P)
theorem ch_yes {P : Prop} (h : P) : ch P = true := @decide_eq_true P (Classical.propDecidable P) h
theorem ch_no {P : Prop} (h : ¬ P) : ch P = false := @decide_eq_false P (Classical.propDecidable P) h
theorem loop_yes {β : Type} (n : Nat) (S : Nat → Nat → Option β) (Q : Nat → Prop) (b : β) (hround : ∀ r i, i < n → Q i → Ev (S (i + 1)) r → Ev (S i) r) (hend : Ev (S n) b) (hq : ∀ i, i < n → Q i) : Ev (S 0) b :=
 loop_up n S hend (fun i hi h => hround b i hi (hq i hi) h)
theorem loop_no {β : Type} (n : Nat) (S : Nat → Nat → Option β) (Q : Nat → Prop) (no : β) (hround : ∀ r i, i < n → Q i → Ev (S (i + 1)) r → Ev (S i) r) (hno : ∀ i, i < n → ¬ Q i → Ev (S i) no) (hq : ¬ ∀ i, i < n → Q i) : Ev (S 0) no := by
 refine Classical.byContradiction fun hc => hq ?_
 have key : ∀ i, i ≤ n → (¬ Ev (S i) no) ∧ ∀ j, j < i → Q j := by
  intro i
  induction i with
  | zero => intro _; exact ⟨hc, fun j hj => absurd hj (Nat.not_lt_zero j)⟩
  | succ i ih =>
   intro hi
   obtain ⟨h1, h2⟩ := ih (by omega)
   have hQ : Q i := Classical.byContradiction fun h => h1 (hno i (by omega) h)
   refine ⟨fun h => h1 (hround no i (by omega) hQ h), fun j hj => ?_⟩
   by_cases e : j = i
   ·subst e; exact hQ
   ·exact h2 j (by omega)
 exact (key n (Nat.le_refl n)).2
theorem has_str (l : List ByteArray) (L0 : Nat → List ByteArray → Int → Int → Option Int) (cl : Nat → ByteArray → Option Bool) (p : ByteArray → Bool)
  (hstep : ∀ k n i, L0 (k + 1) l n i = if i < n then (if 0 ≤ i then (if i < (l.length : Int) then ((cl k (rdOf ByteArray.empty l i)).bind fun t => if t = true then some i else L0 k l n (wrap64 (i + 1))) else none) else none) else some (-1))
  (hp : ∀ x ∈ l, Ev (fun k => cl k x) (p x)) (hl : l.length ≤ 4000000000000000000) : Ev (fun k => (L0 k l (l.length : Int) 0).bind fun t => some (decide (t ≥ 0))) (l.any p) := by
 obtain ⟨r, hr, e⟩ := idx_any l (fun l i => rdOf ByteArray.empty l i) (fun i h => rdOf_at _ l i h) L0 cl p hstep hp hl
 rw [← e]
 exact ev_bind (f := fun _ t => some (decide (t ≥ 0))) hr (Ev.now _)
theorem not_any {α : Type} (p : α → Bool) : ∀ l : List α, (l.any fun s => !p s) = !(l.all p) := by
 intro l
 induction l with
 | nil => rfl
 | cons x l ih => simp only [List.any_cons, List.all_cons, Bool.not_and, ih]
abbrev tx (l : List ByteArray) (i : Nat) : ByteArray := rdOf ByteArray.empty l (i : Int)
end Go.Proofs.Ythhkkhnjkoacnaa.PW
end
section
namespace Go.Proofs.Ythhkkhnjkoacnaa.PX
open Go.RowKit Go.Proofs.YthhkkhnjkoacnaaW.PrintWords Go.Proofs.YthhkkhnjkoacnaaW.PrintLast Go.Proofs.YthhkkhnjkoacnaaW.PrintMore Go.Proofs.Ythhkkhnjkoacnaa.PB Go.Proofs.Ythhkkhnjkoacnaa.PD Go.Proofs.Ythhkkhnjkoacnaa.PK Go.Proofs.Ythhkkhnjkoacnaa.PL Go.Proofs.Ythhkkhnjkoacnaa.PS Go.Proofs.Ythhkkhnjkoacnaa.PT Go.Proofs.Ythhkkhnjkoacnaa.PU Go.Proofs.Ythhkkhnjkoacnaa.PG Go.Proofs.Ythhkkhnjkoacnaa.PQ Go.Proofs.Ythhkkhnjkoacnaa.PW Go.Proofs.Ythhkkhnjkoacnaa.PA
set_option linter.unusedVariables false
def itemB (s : ByteArray) : Bool := decide ((s.size : Int) ≤ 60)
def blockB (a b : ByteArray) (l : List ByteArray) : Bool := decide (a.size = 4) && (decide (b.size = 4) && (decide (l.length ≤ 6) && l.all itemB))
theorem goodBlockI (a b : ByteArray) (l : List ByteArray) (hl : l.length ≤ 2000000) : Ev (fun k => impl_GoodBlock.f k a b l) (blockB a b l) := by
 unfold impl_GoodBlock.f blockB
 refine ev_const (isDigI a) ?_
 by_cases h1 : a.size = 4
 ·refine ev_pos (decide_eq_true h1) (ev_const (isDigI b) ?_)
  rw [decide_eq_true h1, Bool.true_and]
  by_cases h2 : b.size = 4
  ·refine ev_pos (decide_eq_true h2) ?_
   rw [decide_eq_true h2, Bool.true_and]
   by_cases h3 : l.length ≤ 6
   ·refine ev_pos (by omega) ?_
    rw [decide_eq_true h3, Bool.true_and]
    have e : ∀ s : ByteArray, decide ((s.size : Int) > 60) = !itemB s := by
     intro s
     unfold itemB
     by_cases hs : (s.size : Int) ≤ 60
     ·rw [decide_eq_true hs]; exact decide_eq_false (by omega)
     ·rw [decide_eq_false hs]; exact decide_eq_true (by omega)
    have hc := has_str l slices_IndexFunc_impl_GoodBlock_1.l0 (fun _ s => impl_GoodBlock_1.f s) (fun s => !itemB s) (fun k n i => rfl) (fun x _ => ev_of_eq (by unfold impl_GoodBlock_1.f; rw [e])) (by omega)
    rw [not_any] at hc
    refine ev_eq (ev_bind (f := fun _ t => some (!t)) (g := fun k => slices_ContainsFunc_impl_GoodBlock_1.f k l) hc (Ev.now _)) ?_
    rw [Bool.not_not]
   ·rw [decide_eq_false h3]; exact ev_neg (by omega) (Ev.now _)
  ·rw [decide_eq_false h2]; exact ev_neg (by simp) (Ev.now _)
 ·rw [decide_eq_false h1]; exact ev_neg (by simp) (Ev.now _)
end Go.Proofs.Ythhkkhnjkoacnaa.PX
end
section
namespace Go.Proofs.Ythhkkhnjkoacnaa.PY
open Go.RowKit Go.Proofs.YthhkkhnjkoacnaaW.PrintWords Go.Proofs.YthhkkhnjkoacnaaW.PrintLast Go.Proofs.YthhkkhnjkoacnaaW.PrintMore Go.Proofs.Ythhkkhnjkoacnaa.PB Go.Proofs.Ythhkkhnjkoacnaa.PD Go.Proofs.Ythhkkhnjkoacnaa.PK Go.Proofs.Ythhkkhnjkoacnaa.PL Go.Proofs.Ythhkkhnjkoacnaa.PS Go.Proofs.Ythhkkhnjkoacnaa.PT Go.Proofs.Ythhkkhnjkoacnaa.PU Go.Proofs.Ythhkkhnjkoacnaa.PG Go.Proofs.Ythhkkhnjkoacnaa.PQ Go.Proofs.Ythhkkhnjkoacnaa.PW Go.Proofs.Ythhkkhnjkoacnaa.PX Go.Proofs.Ythhkkhnjkoacnaa.PA
set_option linter.unusedVariables false
theorem rdI_at (l : List S89) (i : Nat) (h : i < l.length) : rd_T89 l (i : Int) = l[i] := by
 simp [rd_T89, List.getD_eq_getElem?_getD, List.getElem?_eq_getElem h]
def blkB (x : S89) : Bool := blockB x.f0 x.f1 x.f2
def Sm (x : S89) : Prop := x.f2.length ≤ 2000000
def chainOk (l : List S89) : Bool := decide ((l.length : Int) ≤ 12) && l.all blkB
theorem allI (l : List S89) (hl : l.length ≤ 2000000) (hs : ∀ x ∈ l, Sm x) : Ev (fun k => impl_areBlocks.f k l) (chainOk l) := by
 unfold chainOk impl_areBlocks.f
 by_cases h : (l.length : Int) ≤ 12
 ·refine ev_pos h ?_
  rw [decide_eq_true h, Bool.true_and]
  obtain ⟨r, hr, e⟩ := idx_any l rd_T89 (fun i h => rdI_at l i h) slices_IndexFunc_impl_areBlocks_1.l0 (fun k x => impl_areBlocks_1.f k x.f0 x.f1 x.f2) (fun x => !blkB x) (fun k n i => rfl) (fun x hx => ev_bind (f := fun _ t => some (!t)) (goodBlockI _ _ _ (hs x hx)) (Ev.now _)) (by omega)
  have hc : Ev (fun k => slices_ContainsFunc_impl_areBlocks_1.f k l) (l.any fun x => !blkB x) := by
   rw [← e]
   exact ev_bind (f := fun _ t => some (decide (t ≥ 0))) hr (Ev.now _)
  refine ev_eq (ev_bind (f := fun _ t => some (!t)) hc (Ev.now _)) ?_
  rw [not_any, Bool.not_not]
 ·refine ev_neg h ?_
  rw [decide_eq_false h]
  exact Ev.now _
end Go.Proofs.Ythhkkhnjkoacnaa.PY
end
section
namespace Go.Proofs.Ythhkkhnjkoacnaa.PZ
open Go.RowKit Go.Proofs.YthhkkhnjkoacnaaW.PrintWords Go.Proofs.YthhkkhnjkoacnaaW.PrintLast Go.Proofs.YthhkkhnjkoacnaaW.PrintMore Go.Proofs.Ythhkkhnjkoacnaa.PB Go.Proofs.Ythhkkhnjkoacnaa.PD Go.Proofs.Ythhkkhnjkoacnaa.PK Go.Proofs.Ythhkkhnjkoacnaa.PL Go.Proofs.Ythhkkhnjkoacnaa.PS Go.Proofs.Ythhkkhnjkoacnaa.PT Go.Proofs.Ythhkkhnjkoacnaa.PU Go.Proofs.Ythhkkhnjkoacnaa.PG Go.Proofs.Ythhkkhnjkoacnaa.PQ Go.Proofs.Ythhkkhnjkoacnaa.PV Go.Proofs.Ythhkkhnjkoacnaa.PW Go.Proofs.Ythhkkhnjkoacnaa.PX Go.Proofs.Ythhkkhnjkoacnaa.PY Go.Proofs.Ythhkkhnjkoacnaa.PA
set_option linter.unusedVariables false
abbrev slotT (x : S40) : ByteArray := x.f0 ++ x.f2
abbrev textsM (l : List S40) : List ByteArray := l.map slotT
theorem slotB_facts {x : S40} (h : slotB x = true) : 1 ≤ x.f0.size ∧ x.f0.size ≤ 8 ∧ x.f2.size = 4 := by
 unfold slotB slotOk at h
 cases o : x.f4 with
 | true =>
  rw [o, if_pos rfl, Bool.and_eq_true, Bool.and_eq_true] at h
  have h1 := of_decide_eq_true h.1
  have h2 := of_decide_eq_true h.2.1
  exact ⟨by omega, by omega, h2⟩
 | false =>
  rw [o, if_neg (by simp), Bool.and_eq_true] at h
  have h2 := of_decide_eq_true h.2
  unfold threeOk at h
  rw [Bool.and_eq_true] at h
  have h1 := of_decide_eq_true h.1.1
  refine ⟨by omega, by omega, ?_⟩
  rw [h2]; exact dig_size _ _
theorem shelf_len {l : List S40} (h : shelfOk l = true) : l.length ≤ 20 := by
 unfold shelfOk at h
 simp only [Bool.and_eq_true, decide_eq_true_eq] at h
 omega
theorem shelf_mem {l : List S40} (h : shelfOk l = true) : ∀ x ∈ l, slotB x = true := by
 unfold shelfOk at h
 simp only [Bool.and_eq_true] at h
 exact fun x hx => List.all_eq_true.1 h.2 x hx
theorem textsS (l : List S40) (hl : l.length ≤ 2000000) (hs : ∀ x ∈ l, x.f0.size ≤ 1000000000 ∧ x.f2.size ≤ 1000000000) : Ev (fun k => spec_l15Texts.f k l) (textsM l) := by
 have key : ∀ (d i : Nat), i + d = l.length → Ev (fun k => spec_l15Texts.l0 k ((l.take i).map slotT) l (l.length : Int) (i : Int)) (textsM l) := by
  intro d
  induction d with
  | zero =>
   intro i hi
   rw [List.take_of_length_le (by omega)]
   refine Ev.step (f := fun _ => some (textsM l)) (fun k => ?_) (Ev.now _)
   simp only [spec_l15Texts.l0]; rw [if_neg (by omega)]
  | succ d ih =>
   intro i hi
   have hlt : i < l.length := by omega
   have hz := hs _ (List.getElem_mem hlt)
   have e : (l.take (i + 1)).map slotT = (l.take i).map slotT ++ [l[i].f0 ++ l[i].f2] := by
    rw [List.take_succ_eq_append_getElem hlt, List.map_append]; rfl
   have hx := ih (i + 1) (by omega)
   rw [e] at hx
   refine Ev.step (f := fun k => spec_l15Texts.l0 k ((l.take i).map slotT ++ [l[i].f0 ++ l[i].f2]) l (l.length : Int) ((i + 1 : Nat) : Int)) (fun k => ?_) hx
   have hll : ((l.take i).map slotT).length < 8796093022208 := by rw [List.length_map, List.length_take]; omega
   simp only [spec_l15Texts.l0]
   rw [if_pos (by omega), if_pos (by omega), if_pos (by omega), PV.rdI_at l i hlt, if_pos (by omega), if_pos hll, w64 (x := (i : Int) + 1) (by omega) (by omega)]
   rfl
 exact key l.length 0 (by omega)
theorem textsI (l : List S40) (hl : l.length ≤ 2000000) (hs : ∀ x ∈ l, x.f0.size ≤ 1000000000 ∧ x.f2.size ≤ 1000000000) : Ev (fun k => impl_commits.f k l) (textsM l) := by
 have key : ∀ (d i : Nat), i + d = l.length → Ev (fun k => impl_commits.l0 k ((l.take i).map slotT) l (l.length : Int) (i : Int)) (textsM l) := by
  intro d
  induction d with
  | zero =>
   intro i hi
   rw [List.take_of_length_le (by omega)]
   refine Ev.step (f := fun _ => some (textsM l)) (fun k => ?_) (Ev.now _)
   simp only [impl_commits.l0]; rw [if_neg (by omega)]
  | succ d ih =>
   intro i hi
   have hlt : i < l.length := by omega
   have hz := hs _ (List.getElem_mem hlt)
   have e : (l.take (i + 1)).map slotT = (l.take i).map slotT ++ [l[i].f0 ++ l[i].f2] := by
    rw [List.take_succ_eq_append_getElem hlt, List.map_append]; rfl
   have hx := ih (i + 1) (by omega)
   rw [e] at hx
   refine Ev.step (f := fun k => impl_commits.l0 k ((l.take i).map slotT ++ [l[i].f0 ++ l[i].f2]) l (l.length : Int) ((i + 1 : Nat) : Int)) (fun k => ?_) hx
   have hll : ((l.take i).map slotT).length < 8796093022208 := by rw [List.length_map, List.length_take]; omega
   simp only [impl_commits.l0]
   rw [if_pos (by omega), if_pos (by omega), if_pos (by omega), PV.rdI_at l i hlt, if_pos (by omega), if_pos hll, w64 (x := (i : Int) + 1) (by omega) (by omega)]
   rfl
 exact key l.length 0 (by omega)
theorem shelf_small {l : List S40} (h : shelfOk l = true) : ∀ x ∈ l, x.f0.size ≤ 1000000000 ∧ x.f2.size ≤ 1000000000 := fun x hx => by
 have := slotB_facts (shelf_mem h x hx)
 exact ⟨by omega, by omega⟩
theorem texts_small {l : List S40} (h : shelfOk l = true) : small (textsM l) = true ∧ total (textsM l) ≤ 260 := by
 have key : ∀ l : List S40, (∀ x ∈ l, slotB x = true) → small (textsM l) = true ∧ total (textsM l) ≤ 13 * l.length := by
  intro l
  induction l with
  | nil => intro _; exact ⟨rfl, by simp [total, szL]⟩
  | cons a l ih =>
   intro h
   obtain ⟨h1, h2⟩ := ih (fun x hx => h x (List.mem_cons_of_mem _ hx))
   have ha := slotB_facts (h a List.mem_cons_self)
   have e : (slotT a).size = a.f0.size + a.f2.size := app_size _ _
   simp only [textsM, List.map_cons, small, List.all_cons, total, szL, List.length_cons, List.length_map] at h1 h2 ⊢
   refine ⟨?_, by omega⟩
   rw [h1, Bool.and_true]
   exact decide_eq_true (by omega)
 obtain ⟨h1, h2⟩ := key l (shelf_mem h)
 have := shelf_len h
 exact ⟨h1, by omega⟩
theorem k115 : Kd_ 115 := ⟨by decide, by decide⟩
def shelfDigestM (l : List S40) : ByteArray × Bool := if shelfOk l = true then (dig 115 (rowM (textsM l)), true) else (⟨#[]⟩, false)
theorem shelfDigestS (l : List S40) (hl : l.length ≤ 2000000) : Ev (fun k => spec_ShelfDigest.f k l) (shelfDigestM l) := by
 refine ev_bind (goodShelfS l hl) ?_
 unfold shelfDigestM
 cases h : shelfOk l with
 | false => exact ev_neg (by simp) (Ev.now _)
 | true =>
  have hz := texts_small h
  exact ev_pos rfl (ev_bind (textsS l hl (shelf_small h)) (ev_bind (rowS _ (by omega)) (ev_bind (digS 115 k115 _ (by rw [rowM_size]; omega)) (Ev.now _))))
theorem shelfDigestI (l : List S40) (hl : l.length ≤ 2000000) : Ev (fun k => impl_ShelfDigest.f k l) (shelfDigestM l) := by
 refine ev_bind (goodShelfI l hl) ?_
 unfold shelfDigestM
 cases h : shelfOk l with
 | false => exact ev_neg (by simp) (Ev.now _)
 | true =>
  have hz := texts_small h
  have hn := shelf_len h
  refine ev_pos rfl (ev_bind (textsI l hl (shelf_small h)) (ev_bind (listDigestI 115 _) (ev_eq (Ev.now _) ?_)))
  unfold listDigestM digestOfM
  rw [if_pos (by rw [List.length_map]; exact hn), if_pos hz.1, if_pos ⟨by decide, by rw [rowM_size]; omega⟩]
  rfl
end Go.Proofs.Ythhkkhnjkoacnaa.PZ
end
section
namespace Go.Proofs.Ythhkkhnjkoacnaa.PM
open Go.RowKit Go.Proofs.YthhkkhnjkoacnaaW.PrintWords Go.Proofs.YthhkkhnjkoacnaaW.PrintLast Go.Proofs.YthhkkhnjkoacnaaW.PrintMore Go.Proofs.Ythhkkhnjkoacnaa.PB Go.Proofs.Ythhkkhnjkoacnaa.PL Go.Proofs.Ythhkkhnjkoacnaa.PG Go.Proofs.Ythhkkhnjkoacnaa.PV Go.Proofs.Ythhkkhnjkoacnaa.PA
set_option linter.unusedVariables false
theorem there_two (l : List S40) (k0 : Int) (hl : l.length ≤ 2000000) : Ev (fun k => spec_l15There.f k l k0) (shelfOk l && decide (0 ≤ k0 ∧ k0 < (l.length : Int))) ∧ Ev (fun k => impl_isOn.f k l k0) (shelfOk l && decide (0 ≤ k0 ∧ k0 < (l.length : Int))) := by
 constructor
 ·refine ev_bind (goodShelfS l hl) ?_
  cases hs : shelfOk l with
  | false => exact ev_neg (by simp) (Ev.now _)
  | true =>
   refine ev_pos rfl ?_
   rw [Bool.true_and]
   by_cases h : k0 ≥ 0
   ·refine ev_pos h (ev_eq (Ev.now _) ?_)
    simp [show 0 ≤ k0 from h]
   ·refine ev_neg h (ev_eq (Ev.now _) ?_)
    simp [show ¬ 0 ≤ k0 from h]
 ·refine ev_bind (goodShelfI l hl) ?_
  cases hs : shelfOk l with
  | false => exact ev_neg (by simp) (Ev.now _)
  | true =>
   refine ev_pos rfl ?_
   rw [Bool.true_and, w64 (x := (l.length : Int) - 1) (by omega) (by omega)]
   refine ev_const (PT.inI _ _ _) (ev_eq (Ev.now _) ?_)
   by_cases h : 0 ≤ k0 ∧ k0 < (l.length : Int)
   ·rw [decide_eq_true h, decide_eq_true ⟨h.1, by omega⟩]
   ·rw [decide_eq_false h, decide_eq_false (fun h2 => h ⟨h2.1, by omega⟩)]
end Go.Proofs.Ythhkkhnjkoacnaa.PM
end
section
namespace Go.Proofs.Ythhkkhnjkoacnaa.PN
open Go.RowKit Go.Proofs.YthhkkhnjkoacnaaW.PrintWords Go.Proofs.YthhkkhnjkoacnaaW.PrintLast Go.Proofs.YthhkkhnjkoacnaaW.PrintMore Go.Proofs.Ythhkkhnjkoacnaa.PB Go.Proofs.Ythhkkhnjkoacnaa.PD Go.Proofs.Ythhkkhnjkoacnaa.PK Go.Proofs.Ythhkkhnjkoacnaa.PL Go.Proofs.Ythhkkhnjkoacnaa.PT Go.Proofs.Ythhkkhnjkoacnaa.PU Go.Proofs.Ythhkkhnjkoacnaa.PG Go.Proofs.Ythhkkhnjkoacnaa.PQ Go.Proofs.Ythhkkhnjkoacnaa.PV Go.Proofs.Ythhkkhnjkoacnaa.PZ Go.Proofs.Ythhkkhnjkoacnaa.PM Go.Proofs.Ythhkkhnjkoacnaa.PA
set_option linter.unusedVariables false
def textOk (s : ByteArray) : Bool := decide (5 ≤ (s.size : Int) ∧ (s.size : Int) ≤ 12)
theorem ks : Kd_ 115 := ⟨by decide, by decide⟩
theorem texts_small (l : List ByteArray) (h : l.all textOk = true) (hl : l.length ≤ 20) : small l = true ∧ total l ≤ 260 := by
 have key : ∀ l : List ByteArray, l.all textOk = true → small l = true ∧ total l ≤ 13 * l.length := by
  intro l
  induction l with
  | nil => intro _; exact ⟨rfl, by simp [total, szL]⟩
  | cons a l ih =>
   intro h
   rw [List.all_cons, Bool.and_eq_true] at h
   have ha := of_decide_eq_true h.1
   obtain ⟨h1, h2⟩ := ih h.2
   simp only [total, szL, List.length_cons] at h2 ⊢
   refine ⟨?_, by omega⟩
   simp only [small, List.all_cons, Bool.and_eq_true, decide_eq_true_eq]
   exact ⟨by omega, h1⟩
 obtain ⟨h1, h2⟩ := key l h
 exact ⟨h1, by omega⟩
def heldM (dg a c : ByteArray) (k0 : Int) (l : List ByteArray) : Bool × Bool := if (dig 115 (rowM l)).toList = dg.toList then ((rdOf ByteArray.empty l k0).toList == (a ++ c).toList, true) else (false, true)
theorem checkSlotI (dg : ByteArray) (k0 : Int) (a b c d : ByteArray) (o : Bool) (l : List ByteArray) (hl : l.length ≤ 2000000) (hac : a.size + c.size ≤ 1000000000) : Ev (fun k => impl_CheckSlot.f k dg k0 a b c d o l) (if (decide (dg.size = 4) && (decide (l.length ≤ 20) && (decide (0 ≤ k0 ∧ k0 < (l.length : Int)) && slotOk a b c d o))) = true ∧ l.all textOk = true then heldM dg a c k0 l else (false, false)) := by
 have hContains : Ev (fun k => slices_ContainsFunc_impl_CheckSlot_1.f k l) (!(l.all textOk)) := by
  obtain ⟨r, hr, e⟩ := idx_any l (fun l i => rdOf ByteArray.empty l i) (fun i h => rdOf_at _ l i h) slices_IndexFunc_impl_CheckSlot_1.l0 (fun _ s => impl_CheckSlot_1.f s) (fun s => !textOk s) (fun k n i => rfl) (fun x _ => ev_of_eq (by unfold impl_CheckSlot_1.f; rw [inI]; rfl)) (by omega)
  have e2 : ∀ l : List ByteArray, (l.any fun s => !textOk s) = !(l.all textOk) := by
   intro l
   induction l with
   | nil => rfl
   | cons x l ih => simp only [List.any_cons, List.all_cons, Bool.not_and, ih]
  rw [← e2, ← e]
  exact ev_bind (f := fun _ t => some (decide (t ≥ 0))) hr (Ev.now _)
 have hin : ∀ {n : Int}, impl_within.f k0 0 (wrap64 ((l.length : Int) - 1)) = some (decide (0 ≤ k0 ∧ k0 < (l.length : Int))) := by
  intro _
  rw [w64 (x := (l.length : Int) - 1) (by omega) (by omega), inI]
  by_cases h : 0 ≤ k0 ∧ k0 < (l.length : Int)
  ·rw [decide_eq_true h, decide_eq_true ⟨h.1, by omega⟩]
  ·rw [decide_eq_false h, decide_eq_false (fun h2 => h ⟨h2.1, by omega⟩)]
 have jI : Ev (fun k => impl_CheckSlot.j0 k dg k0 l true a b c d o) (false, false) :=
  Ev.step (f := fun _ => some (false, false)) (fun k => by simp only [impl_CheckSlot.j0]; rw [if_pos trivial]) (Ev.now _)
 refine ev_const (isDigI dg) ?_
 by_cases h1 : dg.size = 4
 ·refine ev_pos (decide_eq_true h1) (ev_bind (slotI a b c d o) ?_)
  cases h4 : slotOk a b c d o with
  | false =>
   exact ev_eq (ev_neg (by simp) jI) (if_neg (by simp)).symm
  | true =>
   refine ev_pos rfl ?_
   by_cases h2 : l.length ≤ 20
   ·refine ev_neg (by omega) (ev_const (hin (n := 0)) ?_)
    by_cases h3 : 0 ≤ k0 ∧ k0 < (l.length : Int)
    ·rw [decide_eq_true h3]
     refine Ev.step (f := fun k => (slices_ContainsFunc_impl_CheckSlot_1.f k l).bind fun t705 => (if t705 = true then (some (false, false)) else ((impl_ListDigest.f k 115 l).bind fun bt706 => (if bt706.1.toList = dg.toList then (if 0 ≤ k0 then (if k0 < (l.length : Int) then (if a.size + c.size ≤ 9223372036854775807 then (some (((rdOf ByteArray.empty l k0).toList == (a ++ c).toList), true)) else (none)) else (none)) else (none)) else (some (false, true)))))) (fun k => by simp only [impl_CheckSlot.j0]; rw [if_neg (by simp)]) ?_
     refine ev_bind hContains ?_
     cases hall : l.all textOk with
     | false =>
      exact ev_eq (ev_pos rfl (Ev.now _)) (if_neg (by simp)).symm
     | true =>
      refine ev_eq (r := heldM dg a c k0 l) ?_ (if_pos ⟨by simp [h1, h2], rfl⟩).symm
      have hsm := texts_small l hall h2
      have e : listDigestM 115 l = (dig 115 (rowM l), true) := by
       unfold listDigestM digestOfM
       rw [if_pos h2, if_pos hsm.1, if_pos ⟨by decide, by rw [rowM_size]; omega⟩]
      refine ev_neg (by simp) (ev_bind (listDigestI 115 l) ?_)
      rw [e]
      by_cases h5 : (dig 115 (rowM l)).toList = dg.toList
      ·exact ev_pos h5 (ev_pos h3.1 (ev_pos h3.2 (ev_pos (by omega) (ev_eq (Ev.now _) (by unfold heldM; rw [if_pos h5])))))
      ·exact ev_neg h5 (ev_eq (Ev.now _) (by unfold heldM; rw [if_neg h5]))
    ·rw [decide_eq_false h3]
     exact ev_eq jI (if_neg (by simp)).symm
   ·exact ev_eq (ev_pos (by omega) jI) (if_neg (by simp [h2])).symm
 ·exact ev_eq (ev_neg (by simp [h1]) jI) (if_neg (by simp [h1])).symm
def showM (l : List S40) (k0 : Int) : ByteArray × ByteArray × ByteArray × ByteArray × Bool × List ByteArray × Bool :=
 if (shelfOk l && decide (0 ≤ k0 ∧ k0 < (l.length : Int))) = true then ((rd_T40 l k0).f0, (rd_T40 l k0).f1, (rd_T40 l k0).f2, (rd_T40 l k0).f3, (rd_T40 l k0).f4, textsM l, true) else (⟨#[]⟩, ⟨#[]⟩, ⟨#[]⟩, ⟨#[]⟩, false, [], false)
theorem showI (l : List S40) (k0 : Int) (hl : l.length ≤ 2000000) : Ev (fun k => impl_ShowSlot.f k l k0) (showM l k0) := by
 obtain ⟨hS, hI⟩ := there_two l k0 hl
 unfold showM
 cases hb : shelfOk l && decide (0 ≤ k0 ∧ k0 < (l.length : Int)) with
 | true =>
  rw [hb] at hI
  simp only [Bool.and_eq_true, decide_eq_true_eq] at hb
  exact ev_bind hI (ev_pos rfl (ev_pos hb.2.1 (ev_pos hb.2.2 (ev_bind (textsI l hl (shelf_small hb.1)) (Ev.now _)))))
 | false =>
  rw [hb] at hI
  exact ev_bind hI (ev_neg (by simp) (Ev.now _))
theorem showS (l : List S40) (k0 : Int) (hl : l.length ≤ 2000000) : Ev (fun k => spec_ShowSlot.f k l k0) (showM l k0) := by
 obtain ⟨hI, hS⟩ := there_two l k0 hl
 unfold showM
 cases hb : shelfOk l && decide (0 ≤ k0 ∧ k0 < (l.length : Int)) with
 | true =>
  rw [hb] at hI
  simp only [Bool.and_eq_true, decide_eq_true_eq] at hb
  exact ev_bind hI (ev_pos rfl (ev_pos hb.2.1 (ev_pos hb.2.2 (ev_bind (textsS l hl (shelf_small hb.1)) (Ev.now _)))))
 | false =>
  rw [hb] at hI
  exact ev_bind hI (ev_neg (by simp) (Ev.now _))
def bodyM (l : List S40) (k0 : Int) : ByteArray × Bool × Bool :=
 if (shelfOk l && decide (0 ≤ k0 ∧ k0 < (l.length : Int))) = true then ((rd_T40 l k0).f3, !(rd_T40 l k0).f4, true) else (⟨#[]⟩, false, false)
theorem bodyI (l : List S40) (k0 : Int) (hl : l.length ≤ 2000000) : Ev (fun k => impl_BodyAt.f k l k0) (bodyM l k0) := by
 obtain ⟨hS, hI⟩ := there_two l k0 hl
 unfold bodyM
 cases hb : shelfOk l && decide (0 ≤ k0 ∧ k0 < (l.length : Int)) with
 | true =>
  rw [hb] at hI
  simp only [Bool.and_eq_true, decide_eq_true_eq] at hb
  exact ev_bind hI (ev_pos rfl (ev_pos hb.2.1 (ev_pos hb.2.2 (Ev.now _))))
 | false =>
  rw [hb] at hI
  exact ev_bind hI (ev_neg (by simp) (Ev.now _))
theorem text_ok (x : S40) (h : slotB x = true) : textOk (slotT x) = true := by
 have := slotB_facts h
 have e : (slotT x).size = x.f0.size + x.f2.size := app_size _ _
 exact decide_eq_true (by omega)
theorem shown_held (l : List S40) (i : Nat) (hi : i < l.length) (h : shelfOk l = true) : Ev (fun k => impl_CheckSlot.f k (dig 115 (rowM (textsM l))) (i : Int) l[i].f0 l[i].f1 l[i].f2 l[i].f3 l[i].f4 (textsM l)) (true, true) := by
 have hn := shelf_len h
 have hm := shelf_mem h
 have hx := hm _ (List.getElem_mem hi)
 have hf := slotB_facts hx
 have hle : (textsM l).length = l.length := List.length_map _
 refine ev_eq (checkSlotI _ _ _ _ _ _ _ _ (by omega) (by omega)) ?_
 have ha : (textsM l).all textOk = true := by
  rw [List.all_eq_true]
  intro s hs
  obtain ⟨x, hxm, rfl⟩ := List.mem_map.1 hs
  exact text_ok x (hm x hxm)
 have hb : (decide ((dig 115 (rowM (textsM l))).size = 4) && (decide ((textsM l).length ≤ 20) && (decide (0 ≤ (i : Int) ∧ (i : Int) < ((textsM l).length : Int)) && slotOk l[i].f0 l[i].f1 l[i].f2 l[i].f3 l[i].f4))) = true := by
  rw [decide_eq_true (dig_size _ _), decide_eq_true (by omega), decide_eq_true ⟨by omega, by omega⟩, show slotOk l[i].f0 l[i].f1 l[i].f2 l[i].f3 l[i].f4 = true from hx]; rfl
 rw [if_pos ⟨hb, ha⟩]
 unfold heldM
 rw [if_pos rfl]
 have e : rdOf ByteArray.empty (textsM l) (i : Int) = l[i].f0 ++ l[i].f2 := by
  rw [rdOf_at _ _ i (by omega)]; simp [textsM, slotT]
 rw [e]
 simp
end Go.Proofs.Ythhkkhnjkoacnaa.PN
end
section
namespace Go.Proofs.Ythhkkhnjkoacnaa.PC
open Go.RowKit Go.Proofs.YthhkkhnjkoacnaaW.PrintWords Go.Proofs.YthhkkhnjkoacnaaW.PrintLast Go.Proofs.YthhkkhnjkoacnaaW.PrintMore Go.Proofs.Ythhkkhnjkoacnaa.PB Go.Proofs.Ythhkkhnjkoacnaa.PL Go.Proofs.Ythhkkhnjkoacnaa.PA
set_option linter.unusedVariables false
def Bys (c : List Int) : Prop := ∀ x ∈ c, 0 ≤ x ∧ x ≤ 255
theorem code_of (c : List Int) (h : ∀ x ∈ c, (Lit.int .u8 x).wf = true) : Bys c := by
 intro x hx
 have := h x hx
 simp [Lit.wf] at this
 have e1 : IntKind.u8.min = 0 := rfl
 have e2 : IntKind.u8.max = 255 := rfl
 rw [e1, e2] at this
 omega
theorem code_at {c : List Int} (h : Bys c) (i : Int) : 0 ≤ rd c i ∧ rd c i ≤ 255 := by
 unfold rd
 rw [List.getD_eq_getElem?_getD]
 cases e : c[i.toNat]? with
 | none => simp
 | some x => exact h x (List.mem_of_getElem? e)
theorem wrap_u64 (n : Int) : IntKind.u64.wrap n = n % 18446744073709551616 := by simp [IntKind.wrap, IntKind.bits, IntKind.signed]
theorem and255 (x : Int) (h0 : 0 ≤ x) (h1 : x < 16777216) : 0 ≤ wrap64 (Go.bits .and .u64 x 255) ∧ wrap64 (Go.bits .and .u64 x 255) ≤ 255 := by
 have h := Go.bits_mask .u64 24 (by decide) (fun n a b => by rw [wrap_u64]; omega) 8 (by decide) x h0 (by omega)
 have e : ((2 : Int) ^ 8 - 1) = 255 := by decide
 rw [e] at h
 rw [h, w64 (by omega) (by omega)]
 omega
def Drawn {α : Type} (i : Int) (K : Int) (o : Option (α × Int × Int)) (P : α → Prop) : Prop := ∃ v i' s', o = some (v, i', s') ∧ P v ∧ i ≤ i' ∧ i' ≤ i + K
theorem next_d {c : List Int} (hc : Bys c) (i s : Int) (h0 : 0 ≤ i) (h1 : i ≤ 1000000000000) : Drawn i 1 (spec_l1Cur_next.f c i s) (fun v => 0 ≤ v ∧ v ≤ 255) := by
 have e : wrap64 (i + 1) = i + 1 := w64 (by omega) (by omega)
 have hr := code_at hc i
 have hv : wrap64 (rd c i) = rd c i := w64 (by omega) (by omega)
 unfold spec_l1Cur_next.f
 rw [e]
 by_cases hi : i < (c.length : Int)
 ·rw [if_pos hi, if_pos h0, if_pos (by omega)]
  exact ⟨_, _, _, rfl, by rw [hv]; exact hr, by omega, by omega⟩
 ·rw [if_neg hi, if_neg (by omega)]
  refine ⟨_, _, _, rfl, and255 _ ?_ ?_, by omega, by omega⟩
  ·rw [wrap_u64]; omega
  ·rw [wrap_u64]; omega
theorem pick_d {c : List Int} (hc : Bys c) (i s n : Int) (h0 : 0 ≤ i) (h1 : i ≤ 100000000000) (hn : n ≤ 1000000000) : Drawn i 2 (spec_l1Cur_pick.f c i s n) (fun v => 0 ≤ v ∧ (v < n ∨ v = 0)) := by
 unfold spec_l1Cur_pick.f
 by_cases c1 : n ≤ 1
 ·rw [if_pos c1]
  exact ⟨0, i, s, rfl, ⟨by omega, Or.inr rfl⟩, by omega, by omega⟩
 ·rw [if_neg c1]
  obtain ⟨v, i', s', e, hv, hi1, hi2⟩ := next_d hc i s h0 (by omega)
  rw [e]
  simp only [Option.bind_some]
  by_cases c2 : n > 200
  ·rw [if_pos c2]
   obtain ⟨v2, i2, s2, e2, hv2, hi3, hi4⟩ := next_d hc i' s' (by omega) (by omega)
   rw [e2]
   simp only [Option.bind_some]
   rw [if_neg (by omega), w64 (x := v * 256) (by omega) (by omega), w64 (x := v * 256 + v2) (by omega) (by omega), Int.tmod_eq_emod_of_nonneg (by omega)]
   exact ⟨_, _, _, rfl, ⟨Int.emod_nonneg _ (by omega), Or.inl (Int.emod_lt_of_pos _ (by omega))⟩, by omega, by omega⟩
  ·rw [if_neg c2, if_neg (by omega), Int.tmod_eq_emod_of_nonneg (by omega)]
   exact ⟨_, _, _, rfl, ⟨Int.emod_nonneg _ (by omega), Or.inl (Int.emod_lt_of_pos _ (by omega))⟩, by omega, by omega⟩
theorem of_d {c : List Int} (hc : Bys c) (i s : Int) (l : List ByteArray) (h0 : 0 ≤ i) (h1 : i ≤ 100000000000) (hl : 1 ≤ l.length ∧ l.length ≤ 1000000000) : Drawn i 2 (spec_l1Cur_of.f c i s l) (fun v => v ∈ l) := by
 obtain ⟨v, i', s', e, hv, hi1, hi2⟩ := pick_d hc i s (l.length : Int) h0 h1 (by omega)
 unfold spec_l1Cur_of.f
 rw [e]
 simp only [Option.bind_some]
 rw [if_pos hv.1, if_pos (by omega)]
 refine ⟨_, _, _, rfl, ?_, hi1, hi2⟩
 obtain ⟨n, rfl⟩ := Int.eq_ofNat_of_zero_le hv.1
 have hn : n < l.length := by omega
 rw [rdOf_at _ _ _ hn]
 exact List.getElem_mem hn
theorem one_d {c : List Int} (hc : Bys c) (i s n : Int) (h0 : 0 ≤ i) (h1 : i ≤ 100000000000) (hn : n ≤ 1000000000) : Drawn i 2 (spec_l1Cur_one.f c i s n) (fun _ => True) := by
 obtain ⟨v, i', s', e, hv, hi1, hi2⟩ := pick_d hc i s n h0 h1 hn
 unfold spec_l1Cur_one.f
 rw [e]
 exact ⟨_, _, _, rfl, trivial, hi1, hi2⟩
def DrawnE {α : Type} (i : Int) (K : Int) (f : Nat → Option (α × Int × Int)) (P : α → Prop) : Prop := ∃ v i' s', Ev f (v, i', s') ∧ P v ∧ i ≤ i' ∧ i' ≤ i + K
end Go.Proofs.Ythhkkhnjkoacnaa.PC
end
section
namespace Go.Proofs.Ythhkkhnjkoacnaa.PF
open Go.RowKit Go.Proofs.YthhkkhnjkoacnaaW.PrintWords Go.Proofs.YthhkkhnjkoacnaaW.PrintLast Go.Proofs.YthhkkhnjkoacnaaW.PrintMore Go.Proofs.Ythhkkhnjkoacnaa.PB Go.Proofs.Ythhkkhnjkoacnaa.PL Go.Proofs.Ythhkkhnjkoacnaa.PQ Go.Proofs.Ythhkkhnjkoacnaa.PV Go.Proofs.Ythhkkhnjkoacnaa.PZ Go.Proofs.Ythhkkhnjkoacnaa.PM Go.Proofs.Ythhkkhnjkoacnaa.PN Go.Proofs.Ythhkkhnjkoacnaa.PC Go.Proofs.Ythhkkhnjkoacnaa.PA
set_option linter.unusedVariables false
def outX (x : S40) : S40 := ⟨x.f0, ⟨#[]⟩, x.f2, ⟨#[]⟩, true⟩
def takeOutM (l : List S40) (k0 : Int) : List S40 × Bool :=
 if (shelfOk l && decide (0 ≤ k0 ∧ k0 < (l.length : Int))) = true then (if (rd_T40 l k0).f4 = true then ([], false) else (l.set k0.toNat (outX (rd_T40 l k0)), true)) else ([], false)
theorem takeOutS (l : List S40) (k0 : Int) (hl : l.length ≤ 2000000) : Ev (fun k => spec_TakeOut.f k l k0) (takeOutM l k0) := by
 obtain ⟨hS, hI⟩ := there_two l k0 hl
 unfold takeOutM
 cases hb : shelfOk l && decide (0 ≤ k0 ∧ k0 < (l.length : Int)) with
 | true =>
  rw [hb] at hS
  simp only [Bool.and_eq_true, decide_eq_true_eq] at hb
  cases ho : (rd_T40 l k0).f4 with
  | true => exact ev_bind hS (ev_pos rfl (ev_pos hb.2.1 (ev_pos hb.2.2 (ev_pos ho (Ev.now _)))))
  | false =>
   have hno : ¬ (rd_T40 l k0).f4 = true := by rw [ho]; simp
   exact ev_bind hS (ev_pos rfl (ev_pos hb.2.1 (ev_pos hb.2.2 (ev_neg hno (ev_const (a := []) rfl (ev_pos (by simp only [List.length_nil]; omega) (ev_const (a := l) rfl (ev_pos hb.2.2 (Ev.now _)))))))))
 | false =>
  rw [hb] at hS
  exact ev_bind hS (ev_neg (by simp) (Ev.now _))
def Shelf (l : List S40) : Prop := l.length ≤ 20 ∧ ∀ x ∈ l, x.f3.size ≤ 1000
theorem shelf_nil : Shelf [] := ⟨by simp, fun x hx => by cases hx⟩
theorem takeOut_shelf {l : List S40} (h : Shelf l) (k0 : Int) : Shelf (takeOutM l k0).1 := by
 unfold takeOutM
 split
 ·split
  ·exact shelf_nil
  ·refine ⟨by show (List.set _ _ _).length ≤ 20; rw [List.length_set]; exact h.1, fun x hx => ?_⟩
   rcases List.mem_or_eq_of_mem_set hx with hx | rfl
   ·exact h.2 x hx
   ·show (⟨#[]⟩ : ByteArray).size ≤ 1000; decide
 ·exact shelf_nil
theorem putS (l : List S40) (a b c : ByteArray) (hl : Shelf l) (hc : c.size ≤ 1000) : ∃ t f, Ev (fun k => spec_PutSlot.f k l a b c) (t, f) ∧ Shelf t := by
 have hn := hl.1
 have hS := goodShelfS l (by omega)
 cases h1 : shelfOk l with
 | false =>
  rw [h1] at hS
  exact ⟨[], false, ev_bind hS (ev_neg (by simp) (Ev.now _)), shelf_nil⟩
 | true =>
  rw [h1] at hS
  cases h2 : threeOk a b c with
  | false => exact ⟨[], false, ev_bind hS (ev_pos rfl (ev_const (goodS a b c) (ev_neg (by simp [h2]) (Ev.now _)))), shelf_nil⟩
  | true =>
   by_cases h3 : (l.length : Int) = 20
   ·exact ⟨[], false, ev_bind hS (ev_pos rfl (ev_const (goodS a b c) (ev_pos h2 (ev_pos h3 (Ev.now _))))), shelf_nil⟩
   ·refine ⟨l ++ [⟨a, b, commitM a b c, c, false⟩], true, ev_bind hS (ev_pos rfl (ev_const (goodS a b c) (ev_pos h2 (ev_neg h3 (ev_bind (commitS a b c h2) (ev_const (a := []) rfl (ev_pos (by simp only [List.length_nil]; omega) (ev_const (a := l) rfl (ev_const rfl (ev_pos (by simp only [List.length_cons, List.length_nil]; omega) (Ev.now _))))))))))), by rw [List.length_append]; simp only [List.length_cons, List.length_nil]; omega, fun x hx => ?_⟩
    rcases List.mem_append.1 hx with h | h
    ·exact hl.2 x h
    ·rw [List.mem_singleton.1 h]; exact hc
theorem slotName_d {c : List Int} (hc : Bys c) (i s : Int) (h0 : 0 ≤ i) (h1 : i ≤ 100000000000) : Drawn i 2 (spec_l1Cur_slotName.f c i s) (fun t => t.size ≤ 1000) := by
 obtain ⟨v, i', s', e, hv, hi1, hi2⟩ := of_d hc i s [⟨#[111, 110, 101]⟩, ⟨#[116, 119, 111]⟩, ⟨#[116, 104, 114, 101, 101]⟩, ⟨#[120]⟩, ⟨#[]⟩, ⟨#[110, 105, 110, 101, 32, 98, 121, 116, 101]⟩] h0 h1 (by decide)
 have hz : v.size ≤ 1000 := by
  simp only [List.mem_cons, List.not_mem_nil, or_false] at hv
  rcases hv with rfl | rfl | rfl | rfl | rfl | rfl <;> decide
 unfold spec_l1Cur_slotName.f
 rw [e]
 exact ⟨_, _, _, rfl, hz, hi1, hi2⟩
theorem shelf_d {c : List Int} (hc : Bys c) (i s : Int) (h0 : 0 ≤ i) (h1 : i ≤ 10000000000) : DrawnE i 2000 (fun k => spec_l1Cur_shelf.f k c i s) (fun l => l.length ≤ 20) := by
 have loop : ∀ (d : Nat) (l : List S40) (i s : Int), Shelf l → 0 ≤ i → i + 20 * (d : Int) ≤ 20000000000 → ∃ l' i' s', Ev (fun k => spec_l1Cur_shelf.l0 k l (d : Int) c i s) (l', i', s') ∧ l'.length ≤ 20 ∧ i ≤ i' ∧ i' ≤ i + 20 * (d : Int) + 10 := by
  intro d
  induction d with
  | zero =>
   intro l i s hl h0 h1
   have hn := hl.1
   by_cases c1 : (l.length : Int) > 0
   ·obtain ⟨b, i2, s2, e2, _, h2, h3⟩ := one_d hc i s 20 h0 (by omega) (by omega)
    have st : ∀ {r}, Ev (fun k => if b = true then (if 0 < (l.length : Int) then (if ((rd_T40 l 0).f3).size + 1 ≤ 9223372036854775807 then (some ((l.set (0 : Int).toNat (⟨(rd_T40 l 0).f0, (rd_T40 l 0).f1, (rd_T40 l 0).f2, ((rd_T40 l 0).f3) ++ (⟨#[33]⟩ : ByteArray), (rd_T40 l 0).f4⟩ : S40)), i2, s2)) else (none)) else (none)) else (some (l, i2, s2))) r → Ev (fun k => spec_l1Cur_shelf.l0 k l ((0 : Nat) : Int) c i s) r := fun h => Ev.step (fun k => by simp only [spec_l1Cur_shelf.l0]; rw [if_neg (by omega), if_pos c1, e2]; rfl) h
    cases b with
    | true =>
     have hz : ((rd_T40 l 0).f3).size ≤ 1000 := by
      have hp : 0 < l.length := by omega
      have e := PV.rdI_at l 0 hp
      rw [show ((0 : Nat) : Int) = 0 from rfl] at e
      rw [e]
      exact hl.2 _ (List.getElem_mem hp)
     exact ⟨_, i2, s2, st (ev_pos rfl (ev_pos (by omega) (ev_pos (by omega) (Ev.now _)))), by rw [List.length_set]; exact hn, by omega, by omega⟩
    | false => exact ⟨l, i2, s2, st (ev_neg (by simp) (Ev.now _)), hn, by omega, by omega⟩
   ·exact ⟨l, i, s, Ev.step (f := fun _ => some (l, i, s)) (fun k => by simp only [spec_l1Cur_shelf.l0]; rw [if_neg (by omega), if_neg c1]) (Ev.now _), hn, by omega, by omega⟩
  | succ d ih =>
   intro l i s hl h0 h1
   have wd : wrap64 (((d + 1 : Nat) : Int) - 1) = (d : Int) := by rw [w64 (by omega) (by omega)]; omega
   have j2 : ∀ (m : List S40) (i s : Int), Shelf m → 0 ≤ i → i + 20 * (d : Int) + 10 ≤ 20000000000 → ∃ l' i' s', Ev (fun k => spec_l1Cur_shelf.j2 k m ((d + 1 : Nat) : Int) c i s) (l', i', s') ∧ l'.length ≤ 20 ∧ i ≤ i' ∧ i' ≤ i + 20 * (d : Int) + 20 - 6 := by
    intro m i s hm h0 h1
    have hn := hm.1
    obtain ⟨n, i2, s2, e2, _, h2, h3⟩ := pick_d hc i s 3 h0 (by omega) (by omega)
    have ht := takeOutS m n (by omega)
    have hsh := takeOut_shelf hm n
    obtain ⟨l1, i5, s5, r1, z1, z2, z3⟩ := ih m i2 s2 hm (by omega) (by omega)
    obtain ⟨b, i3, s3, e3, _, h4, h5⟩ := one_d hc i2 s2 3 (by omega) (by omega) (by omega)
    obtain ⟨l3, i7, s7, r3, x1, x2, x3⟩ := ih m i3 s3 hm (by omega) (by omega)
    obtain ⟨l2, i6, s6, r2, y1, y2, y3⟩ := ih (takeOutM m n).1 i3 s3 hsh (by omega) (by omega)
    have st : ∀ {r}, Ev (fun k => (spec_TakeOut.f k m n).bind fun t => (if t.2 = true then (if b = true then (spec_l1Cur_shelf.l0 k t.1 (d : Int) c i3 s3) else (spec_l1Cur_shelf.l0 k m (d : Int) c i3 s3)) else (spec_l1Cur_shelf.l0 k m (d : Int) c i2 s2))) r → Ev (fun k => spec_l1Cur_shelf.j2 k m ((d + 1 : Nat) : Int) c i s) r := fun h => Ev.step (fun k => by
     simp only [spec_l1Cur_shelf.j2]
     rw [e2, wd]
     simp only [Option.bind_some]
     rw [e3]
     rfl) h
    cases ho : (takeOutM m n).2 with
    | false => exact ⟨l1, i5, s5, st (ev_bind ht (ev_neg (by simp [ho]) r1)), z1, by omega, by omega⟩
    | true =>
     cases b with
     | true => exact ⟨l2, i6, s6, st (ev_bind ht (ev_pos ho (ev_pos rfl r2))), y1, by omega, by omega⟩
     | false => exact ⟨l3, i7, s7, st (ev_bind ht (ev_pos ho (ev_neg (by simp) r3))), x1, by omega, by omega⟩
   obtain ⟨v, i2, s2, e2, hv, h2, h3⟩ := slotName_d hc i s h0 (by omega)
   obtain ⟨u, i3, s3, e3, hu, h4, h5⟩ := of_d hc i2 s2 [⟨#[115, 49]⟩, ⟨#[115, 50]⟩] (by omega) (by omega) (by decide)
   obtain ⟨t, i4, s4, e4, ht, h6, h7⟩ := of_d hc i3 s3 [⟨#[]⟩, ⟨#[98, 111, 100, 121]⟩, ⟨#[97, 110, 111, 116, 104, 101, 114, 32, 98, 111, 100, 121, 32, 111, 102, 32, 98, 121, 116, 101, 115]⟩, ⟨#[97, 99, 97]⟩, ⟨#[98, 97, 98]⟩] (by omega) (by omega) (by decide)
   have hz : t.size ≤ 1000 := by
    simp only [List.mem_cons, List.not_mem_nil, or_false] at ht
    rcases ht with rfl | rfl | rfl | rfl | rfl <;> decide
   obtain ⟨p, f, hp, hsh⟩ := putS l v u t hl hz
   obtain ⟨l1, i5, s5, r1, z1, z2, z3⟩ := j2 p i4 s4 hsh (by omega) (by omega)
   obtain ⟨l2, i6, s6, r2, y1, y2, y3⟩ := j2 l i4 s4 hl (by omega) (by omega)
   have st : ∀ {r}, Ev (fun k => (spec_PutSlot.f k l v u t).bind fun q => (if q.2 = true then (spec_l1Cur_shelf.j2 k q.1 ((d + 1 : Nat) : Int) c i4 s4) else (spec_l1Cur_shelf.j2 k l ((d + 1 : Nat) : Int) c i4 s4))) r → Ev (fun k => spec_l1Cur_shelf.l0 k l ((d + 1 : Nat) : Int) c i s) r := fun h => Ev.step (fun k => by
    simp only [spec_l1Cur_shelf.l0]
    rw [if_pos (by omega), e2]
    simp only [Option.bind_some, e3, e4]) h
   cases f with
   | true => exact ⟨l1, i5, s5, st (ev_bind hp (ev_pos rfl r1)), z1, by omega, by omega⟩
   | false => exact ⟨l2, i6, s6, st (ev_bind hp (ev_neg (by simp) r2)), y1, by omega, by omega⟩
 obtain ⟨n, i2, s2, e2, hn, h2, h3⟩ := pick_d hc i s 7 h0 (by omega) (by omega)
 obtain ⟨b, i3, s3, e3, _, h4, h5⟩ := one_d hc i2 s2 20 (by omega) (by omega) (by omega)
 cases b with
 | true =>
  obtain ⟨l1, i5, s5, r1, z1, z2, z3⟩ := loop 30 [] i3 s3 shelf_nil (by omega) (by omega)
  refine ⟨l1, i5, s5, ev_const e2 (ev_const e3 (ev_pos rfl (Ev.step (f := fun k => spec_l1Cur_shelf.l0 k [] 30 c i3 s3) (fun k => by simp only [spec_l1Cur_shelf.j0]) r1))), z1, by omega, by omega⟩
 | false =>
  obtain ⟨m, rfl⟩ := Int.eq_ofNat_of_zero_le hn.1
  obtain ⟨l1, i5, s5, r1, z1, z2, z3⟩ := loop m [] i3 s3 shelf_nil (by omega) (by omega)
  refine ⟨l1, i5, s5, ev_const e2 (ev_const e3 (ev_neg (by simp) (Ev.step (f := fun k => spec_l1Cur_shelf.l0 k [] ((m : Nat) : Int) c i3 s3) (fun k => by simp only [spec_l1Cur_shelf.j0]) r1))), z1, by omega, by omega⟩
theorem drawTakeOut {c : List Int} (hc : Bys c) : ∃ l k0, Ev (fun k => spec_DrawTakeOut.f k c) (l, k0) ∧ l.length ≤ 20 := by
 obtain ⟨l, i, s, hl, hz, h1, h2⟩ := shelf_d hc 0 0 (by omega) (by omega)
 have hz' : l.length ≤ 20 := hz
 obtain ⟨n, i2, s2, e2, hn, h3, h4⟩ := pick_d hc i s ((l.length : Int) + 2) (by omega) (by omega) (by omega)
 refine ⟨l, wrap64 (n - 1), ev_bind hl ?_, hz'⟩
 rw [w64 (x := (l.length : Int) + 2) (by omega) (by omega)]
 exact ev_const e2 (Ev.now _)
end Go.Proofs.Ythhkkhnjkoacnaa.PF
end
section
namespace Go.Proofs.Ythhkkhnjkoacnaa.PH
open Go.RowKit Go.Proofs.YthhkkhnjkoacnaaW.PrintWords Go.Proofs.YthhkkhnjkoacnaaW.PrintLast Go.Proofs.YthhkkhnjkoacnaaW.PrintMore Go.Proofs.Ythhkkhnjkoacnaa.PB Go.Proofs.Ythhkkhnjkoacnaa.PL Go.Proofs.Ythhkkhnjkoacnaa.PG Go.Proofs.Ythhkkhnjkoacnaa.PW Go.Proofs.Ythhkkhnjkoacnaa.PX Go.Proofs.Ythhkkhnjkoacnaa.PY Go.Proofs.Ythhkkhnjkoacnaa.PA
set_option linter.unusedVariables false
theorem tx_ext (a b : List ByteArray) (h : a.length = b.length) (he : ∀ i, i < a.length → (tx a i).toList = (tx b i).toList) : a = b := by
 apply List.ext_getElem h
 intro i h1 h2
 have := ba_ext (he i h1)
 unfold tx at this
 rwa [rdOf_at _ _ _ h1, rdOf_at _ _ _ h2] at this
theorem sameTexts_d (a b : List ByteArray) (hl : a.length ≤ 2000000) : Ev (fun k => laws_sameTexts.f k a b) (ch (a = b)) := by
 unfold laws_sameTexts.f
 by_cases h : a.length = b.length
 ·refine ev_pos (by omega) ?_
  have round : ∀ (r : Bool) i, i < a.length → (tx a i).toList = (tx b i).toList → Ev (fun k => laws_sameTexts.l0 k a b (a.length : Int) ((i + 1 : Nat) : Int)) r → Ev (fun k => laws_sameTexts.l0 k a b (a.length : Int) (i : Int)) r := by
   intro r i hi hq h
   refine Ev.step (f := fun k => laws_sameTexts.l0 k a b (a.length : Int) ((i + 1 : Nat) : Int)) (fun k => ?_) h
   simp only [laws_sameTexts.l0]
   rw [if_pos (by omega), if_pos (by omega), if_pos (by omega), if_pos (by omega), if_pos hq, w64 (x := (i : Int) + 1) (by omega) (by omega)]
   rfl
  by_cases hA : ∀ i, i < a.length → (tx a i).toList = (tx b i).toList
  ·rw [ch_yes (tx_ext a b h hA)]
   exact loop_yes a.length (fun i k => laws_sameTexts.l0 k a b (a.length : Int) (i : Int)) _ true round (Ev.step (f := fun _ => some true) (fun k => by simp only [laws_sameTexts.l0]; rw [if_neg (by omega)]) (Ev.now _)) hA
  ·rw [ch_no (fun e => hA (fun i _ => by rw [e]))]
   refine loop_no a.length (fun i k => laws_sameTexts.l0 k a b (a.length : Int) (i : Int)) _ false round (fun i hi hq => ?_) hA
   refine Ev.step (f := fun _ => some false) (fun k => ?_) (Ev.now _)
   simp only [laws_sameTexts.l0]
   rw [if_pos (by omega), if_pos (by omega), if_pos (by omega), if_pos (by omega), if_neg hq]
 ·refine ev_neg (by omega) ?_
  rw [ch_no (fun e => h (by rw [e]))]
  exact Ev.now _
theorem sameTexts_yes (a : List ByteArray) (hl : a.length ≤ 2000000) : Ev (fun k => laws_sameTexts.f k a a) true := ev_eq (sameTexts_d a a hl) (ch_yes rfl)
theorem sameSlots_yes (l : List S40) (hl : l.length ≤ 2000000) : Ev (fun k => laws_sameSlots.f k l l) true := by
 have key : ∀ (d i : Nat), i + d = l.length → Ev (fun k => laws_sameSlots.l0 k l l (l.length : Int) (i : Int)) true := by
  intro d
  induction d with
  | zero =>
   intro i hi
   exact Ev.step (f := fun _ => some true) (fun k => by simp only [laws_sameSlots.l0]; rw [if_neg (by omega)]) (Ev.now _)
  | succ d ih =>
   intro i hi
   refine Ev.step (f := fun k => laws_sameSlots.l0 k l l (l.length : Int) ((i + 1 : Nat) : Int)) (fun k => ?_) (ih (i + 1) (by omega))
   simp only [laws_sameSlots.l0]
   rw [if_pos (by omega), if_pos (by omega), if_pos (by omega), if_pos (by omega), if_neg (by simp), w64 (x := (i : Int) + 1) (by omega) (by omega)]
   rfl
 exact ev_pos rfl (key l.length 0 (by omega))
end Go.Proofs.Ythhkkhnjkoacnaa.PH
end
section
namespace Go.Proofs.Ythhkkhnjkoacnaa.Pure
open Go.RowKit Go.Proofs.YthhkkhnjkoacnaaW.PrintWords Go.Proofs.YthhkkhnjkoacnaaW.PrintLast Go.Proofs.YthhkkhnjkoacnaaW.PrintMore Go.Proofs.Ythhkkhnjkoacnaa.PB Go.Proofs.Ythhkkhnjkoacnaa.PD Go.Proofs.Ythhkkhnjkoacnaa.PK Go.Proofs.Ythhkkhnjkoacnaa.PL Go.Proofs.Ythhkkhnjkoacnaa.PT Go.Proofs.Ythhkkhnjkoacnaa.PU Go.Proofs.Ythhkkhnjkoacnaa.PG Go.Proofs.Ythhkkhnjkoacnaa.PQ Go.Proofs.Ythhkkhnjkoacnaa.PV Go.Proofs.Ythhkkhnjkoacnaa.PA
set_option linter.unusedVariables false
def textOk (s : ByteArray) : Bool := decide (5 ≤ (s.size : Int) ∧ (s.size : Int) ≤ 12)
theorem ks : Kd_ 115 := ⟨by decide, by decide⟩
theorem texts_small (l : List ByteArray) (h : l.all textOk = true) (hl : l.length ≤ 20) : small l = true ∧ total l ≤ 260 := by
 have key : ∀ l : List ByteArray, l.all textOk = true → small l = true ∧ total l ≤ 13 * l.length := by
  intro l
  induction l with
  | nil => intro _; exact ⟨rfl, by simp [total, szL]⟩
  | cons a l ih =>
   intro h
   rw [List.all_cons, Bool.and_eq_true] at h
   have ha := of_decide_eq_true h.1
   obtain ⟨h1, h2⟩ := ih h.2
   simp only [total, szL, List.length_cons] at h2 ⊢
   refine ⟨?_, by omega⟩
   simp only [small, List.all_cons, Bool.and_eq_true, decide_eq_true_eq]
   exact ⟨by omega, h1⟩
 obtain ⟨h1, h2⟩ := key l h
 exact ⟨h1, by omega⟩
def heldM (dg a c : ByteArray) (k0 : Int) (l : List ByteArray) : Bool × Bool := if (dig 115 (rowM l)).toList = dg.toList then ((rdOf ByteArray.empty l k0).toList == (a ++ c).toList, true) else (false, true)
theorem checkSlot_two (dg : ByteArray) (k0 : Int) (a b c d : ByteArray) (o : Bool) (l : List ByteArray) (hl : l.length ≤ 2000000) (hac : a.size + c.size ≤ 1000000000) : ∃ r, Ev (fun k => spec_CheckSlot.f k dg k0 a b c d o l) r ∧ Ev (fun k => impl_CheckSlot.f k dg k0 a b c d o l) r := by
 have hContains : Ev (fun k => slices_ContainsFunc_impl_CheckSlot_1.f k l) (!(l.all textOk)) := by
  obtain ⟨r, hr, e⟩ := idx_any l (fun l i => rdOf ByteArray.empty l i) (fun i h => rdOf_at _ l i h) slices_IndexFunc_impl_CheckSlot_1.l0 (fun _ s => impl_CheckSlot_1.f s) (fun s => !textOk s) (fun k n i => rfl) (fun x _ => ev_of_eq (by unfold impl_CheckSlot_1.f; rw [inI]; rfl)) (by omega)
  have e2 : ∀ l : List ByteArray, (l.any fun s => !textOk s) = !(l.all textOk) := by
   intro l
   induction l with
   | nil => rfl
   | cons x l ih => simp only [List.any_cons, List.all_cons, Bool.not_and, ih]
  rw [← e2, ← e]
  exact ev_bind (f := fun _ t => some (decide (t ≥ 0))) hr (Ev.now _)
 have hin : ∀ {n : Int}, impl_within.f k0 0 (wrap64 ((l.length : Int) - 1)) = some (decide (0 ≤ k0 ∧ k0 < (l.length : Int))) := by
  intro _
  rw [w64 (x := (l.length : Int) - 1) (by omega) (by omega), inI]
  by_cases h : 0 ≤ k0 ∧ k0 < (l.length : Int)
  ·rw [decide_eq_true h, decide_eq_true ⟨h.1, by omega⟩]
  ·rw [decide_eq_false h, decide_eq_false (fun h2 => h ⟨h2.1, by omega⟩)]
 -- the program's end, of a flag
 have jI : Ev (fun k => impl_CheckSlot.j0 k dg k0 l true a b c d o) (false, false) :=
  Ev.step (f := fun _ => some (false, false)) (fun k => by simp only [impl_CheckSlot.j0]; rw [if_pos trivial]) (Ev.now _)
 have jS : Ev (fun k => spec_CheckSlot.j1 k dg k0 l true a b c d o) (false, false) :=
  Ev.step (f := fun _ => some (false, false)) (fun k => by simp only [spec_CheckSlot.j1]; rw [if_pos trivial]) (Ev.now _)
 -- the reference's loop: all texts are as said, or it ends
 have loopS : ∀ r, Ev (fun k => spec_CheckSlot.l0 k dg k0 l l (l.length : Int) (l.length : Int) a b c d o) r → Ev (fun k => spec_CheckSlot.f k dg k0 a b c d o l) (if l.all textOk = true then r else (false, false)) := by
  intro r hr
  have key : ∀ (n i : Nat), i + n = l.length → Ev (fun k => spec_CheckSlot.l0 k dg k0 l l (l.length : Int) (i : Int) a b c d o) (if (l.drop i).all textOk = true then r else (false, false)) := by
   intro n
   induction n with
   | zero =>
    intro i hi
    rw [List.drop_eq_nil_of_le (by omega), List.all_nil, if_pos rfl, show i = l.length by omega]
    exact hr
   | succ n ih =>
    intro i hi
    have hlt : i < l.length := by omega
    rw [List.drop_eq_getElem_cons hlt, List.all_cons]
    have he : spec_l1In.f (l[i].size : Int) 5 12 = some (textOk l[i]) := inS _ _ _
    refine Ev.step (f := fun k => if textOk l[i] = true then spec_CheckSlot.l0 k dg k0 l l (l.length : Int) ((i + 1 : Nat) : Int) a b c d o else some (false, false)) (fun k => ?_) ?_
    ·simp only [spec_CheckSlot.l0]
     rw [if_pos (by omega), if_pos (by omega), if_pos (by omega), rdOf_at _ _ _ hlt, he, w64 (x := (i : Int) + 1) (by omega) (by omega)]
     rfl
    ·cases ht : textOk l[i] with
     | true => rw [Bool.true_and]; exact ev_pos rfl (ih (i + 1) (by omega))
     | false => rw [Bool.false_and]; exact ev_neg (by simp) (Ev.now _)
  exact key l.length 0 (by omega)
 -- the reference behind the loop
 have endS : Ev (fun k => spec_CheckSlot.l0 k dg k0 l l (l.length : Int) (l.length : Int) a b c d o) (if (decide (dg.size = 4) && (decide (l.length ≤ 20) && (decide (0 ≤ k0 ∧ k0 < (l.length : Int)) && slotOk a b c d o))) = true ∧ l.all textOk = true then heldM dg a c k0 l else (false, false)) ∨ l.all textOk = false := by
  cases hall : l.all textOk with
  | false => exact Or.inr rfl
  | true =>
   refine Or.inl ?_
   refine Ev.step (f := fun k => if (dg.size : Int) = 4 then (if (l.length : Int) > 20 then (spec_CheckSlot.j1 k dg k0 l true a b c d o) else (if k0 < 0 then (spec_CheckSlot.j1 k dg k0 l true a b c d o) else (if k0 ≥ (l.length : Int) then (spec_CheckSlot.j1 k dg k0 l true a b c d o) else ((spec_l15Slot.f k a b c d o).bind fun t677 => (spec_CheckSlot.j1 k dg k0 l (!t677) a b c d o))))) else (spec_CheckSlot.j1 k dg k0 l true a b c d o)) (fun k => by simp only [spec_CheckSlot.l0]; rw [if_neg (by omega)]) ?_
   by_cases h1 : dg.size = 4
   ·refine ev_pos (by omega) ?_
    by_cases h2 : l.length ≤ 20
    ·refine ev_neg (by omega) ?_
     by_cases h3 : 0 ≤ k0 ∧ k0 < (l.length : Int)
     ·refine ev_neg (by omega) (ev_neg (by omega) (ev_bind (slotS a b c d o) ?_))
      cases h4 : slotOk a b c d o with
      | false =>
       exact ev_eq jS (if_neg (by simp)).symm
      | true =>
       refine ev_eq (r := heldM dg a c k0 l) ?_ (if_pos ⟨by simp [h1, h2, h3], rfl⟩).symm
       have hsm := texts_small l hall h2
       refine Ev.step (f := fun k => (spec_l1Row.f k l).bind fun t678 => ((spec_l1Digest.f k 115 t678).bind fun t679 => (if t679.toList = dg.toList then (if 0 ≤ k0 then (if k0 < (l.length : Int) then (if a.size + c.size ≤ 9223372036854775807 then (some (((rdOf ByteArray.empty l k0).toList == (a ++ c).toList), true)) else (none)) else (none)) else (none)) else (some (false, true))))) (fun k => by simp only [spec_CheckSlot.j1]; rw [if_neg (by simp)]) ?_
       refine ev_bind (rowS l (by omega)) (ev_bind (digS 115 ks _ (by rw [rowM_size]; omega)) ?_)
       by_cases h5 : (dig 115 (rowM l)).toList = dg.toList
       ·exact ev_pos h5 (ev_pos h3.1 (ev_pos h3.2 (ev_pos (by omega) (ev_eq (Ev.now _) (by unfold heldM; rw [if_pos h5])))))
       ·exact ev_neg h5 (ev_eq (Ev.now _) (by unfold heldM; rw [if_neg h5]))
     ·refine ev_eq (r := (false, false)) ?_ (if_neg (by simp [h3])).symm
      by_cases h4 : k0 < 0
      ·exact ev_pos h4 jS
      ·exact ev_neg h4 (ev_pos (by omega) jS)
    ·exact ev_eq (ev_pos (by omega) jS) (if_neg (by simp [h2])).symm
   ·exact ev_eq (ev_neg (by omega) jS) (if_neg (by simp [h1])).symm
 -- the program
 have allI : Ev (fun k => impl_CheckSlot.f k dg k0 a b c d o l) (if (decide (dg.size = 4) && (decide (l.length ≤ 20) && (decide (0 ≤ k0 ∧ k0 < (l.length : Int)) && slotOk a b c d o))) = true ∧ l.all textOk = true then heldM dg a c k0 l else (false, false)) := by
  refine ev_const (isDigI dg) ?_
  by_cases h1 : dg.size = 4
  ·refine ev_pos (decide_eq_true h1) (ev_bind (slotI a b c d o) ?_)
   cases h4 : slotOk a b c d o with
   | false =>
    exact ev_eq (ev_neg (by simp) jI) (if_neg (by simp)).symm
   | true =>
    refine ev_pos rfl ?_
    by_cases h2 : l.length ≤ 20
    ·refine ev_neg (by omega) (ev_const (hin (n := 0)) ?_)
     by_cases h3 : 0 ≤ k0 ∧ k0 < (l.length : Int)
     ·rw [decide_eq_true h3]
      refine Ev.step (f := fun k => (slices_ContainsFunc_impl_CheckSlot_1.f k l).bind fun t705 => (if t705 = true then (some (false, false)) else ((impl_ListDigest.f k 115 l).bind fun bt706 => (if bt706.1.toList = dg.toList then (if 0 ≤ k0 then (if k0 < (l.length : Int) then (if a.size + c.size ≤ 9223372036854775807 then (some (((rdOf ByteArray.empty l k0).toList == (a ++ c).toList), true)) else (none)) else (none)) else (none)) else (some (false, true)))))) (fun k => by simp only [impl_CheckSlot.j0]; rw [if_neg (by simp)]) ?_
      refine ev_bind hContains ?_
      cases hall : l.all textOk with
      | false =>
       exact ev_eq (ev_pos rfl (Ev.now _)) (if_neg (by simp)).symm
      | true =>
       refine ev_eq (r := heldM dg a c k0 l) ?_ (if_pos ⟨by simp [h1, h2], rfl⟩).symm
       have hsm := texts_small l hall h2
       have e : listDigestM 115 l = (dig 115 (rowM l), true) := by
        unfold listDigestM digestOfM
        rw [if_pos h2, if_pos hsm.1, if_pos ⟨by decide, by rw [rowM_size]; omega⟩]
       refine ev_neg (by simp) (ev_bind (listDigestI 115 l) ?_)
       rw [e]
       by_cases h5 : (dig 115 (rowM l)).toList = dg.toList
       ·exact ev_pos h5 (ev_pos h3.1 (ev_pos h3.2 (ev_pos (by omega) (ev_eq (Ev.now _) (by unfold heldM; rw [if_pos h5])))))
       ·exact ev_neg h5 (ev_eq (Ev.now _) (by unfold heldM; rw [if_neg h5]))
     ·rw [decide_eq_false h3]
      exact ev_eq jI (if_neg (by simp)).symm
    ·exact ev_eq (ev_pos (by omega) jI) (if_neg (by simp [h2])).symm
  ·exact ev_eq (ev_neg (by simp [h1]) jI) (if_neg (by simp [h1])).symm
 rcases endS with h | h
 ·have := loopS _ h
  refine ⟨_, this, ?_⟩
  cases hall : l.all textOk with
  | true => rw [if_pos rfl]; rw [hall] at allI; exact allI
  | false => rw [if_neg (by simp)]; rw [hall, if_neg (by simp)] at allI; exact allI
 ·-- a text that is not as said: the reference ends at it
  have key : Ev (fun k => spec_CheckSlot.f k dg k0 a b c d o l) (false, false) := by
   have key : ∀ (n i : Nat), i + n = l.length → (l.drop i).all textOk = false → Ev (fun k => spec_CheckSlot.l0 k dg k0 l l (l.length : Int) (i : Int) a b c d o) (false, false) := by
    intro n
    induction n with
    | zero =>
     intro i hi hf
     rw [List.drop_eq_nil_of_le (by omega)] at hf
     simp at hf
    | succ n ih =>
     intro i hi hf
     have hlt : i < l.length := by omega
     rw [List.drop_eq_getElem_cons hlt, List.all_cons] at hf
     have he : spec_l1In.f (l[i].size : Int) 5 12 = some (textOk l[i]) := inS _ _ _
     refine Ev.step (f := fun k => if textOk l[i] = true then spec_CheckSlot.l0 k dg k0 l l (l.length : Int) ((i + 1 : Nat) : Int) a b c d o else some (false, false)) (fun k => ?_) ?_
     ·simp only [spec_CheckSlot.l0]
      rw [if_pos (by omega), if_pos (by omega), if_pos (by omega), rdOf_at _ _ _ hlt, he, w64 (x := (i : Int) + 1) (by omega) (by omega)]
      rfl
     ·cases ht : textOk l[i] with
      | true => rw [ht, Bool.true_and] at hf; exact ev_pos rfl (ih (i + 1) (by omega) hf)
      | false => exact ev_neg (by simp) (Ev.now _)
   exact key l.length 0 (by omega) (by rw [List.drop_zero]; exact h)
  refine ⟨_, key, ?_⟩
  rw [h, if_neg (by simp)] at allI
  exact allI
end Go.Proofs.Ythhkkhnjkoacnaa.Pure
end
section
namespace Go.Proofs.Ythhkkhnjkoacnaa.Pure
open Go.RowKit Go.Proofs.YthhkkhnjkoacnaaW.PrintWords Go.Proofs.YthhkkhnjkoacnaaW.PrintLast Go.Proofs.YthhkkhnjkoacnaaW.PrintMore Go.Proofs.Ythhkkhnjkoacnaa.PB Go.Proofs.Ythhkkhnjkoacnaa.PL Go.Proofs.Ythhkkhnjkoacnaa.PG Go.Proofs.Ythhkkhnjkoacnaa.PQ Go.Proofs.Ythhkkhnjkoacnaa.PV Go.Proofs.Ythhkkhnjkoacnaa.PZ Go.Proofs.Ythhkkhnjkoacnaa.PM Go.Proofs.Ythhkkhnjkoacnaa.PA
set_option linter.unusedVariables false
theorem putSlot_two (l : List S40) (a b c : ByteArray) (hl : l.length ≤ 2000000) : ∃ t f, Ev (fun k => spec_PutSlot.f k l a b c) (t, f) ∧ Ev (fun k => impl_PutSlot.f k l a b c) (t, f) ∧ t.length ≤ 2000000 := by
 have hS := goodShelfS l hl
 have hI := goodShelfI l hl
 have hC := commitI a b c
 have hcl : impl_Slot_119.f l = some l := by
  unfold impl_Slot_119.f
  simp only [Option.bind_some]
  rw [if_pos (by simp only [List.length_nil]; omega)]
  rfl
 cases h2 : threeOk a b c with
 | false =>
  rw [h2, if_neg (by simp)] at hC
  refine ⟨[], false, ev_bind hS ?_, ev_bind hC (ev_neg (by simp) (Ev.now _)), by simp⟩
  cases h1 : shelfOk l with
  | false => exact ev_neg (by simp) (Ev.now _)
  | true => exact ev_pos rfl (ev_const (goodS a b c) (ev_neg (by simp [h2]) (Ev.now _)))
 | true =>
  rw [h2, if_pos rfl] at hC
  cases h1 : shelfOk l with
  | false =>
   rw [h1] at hS hI
   exact ⟨[], false, ev_bind hS (ev_neg (by simp) (Ev.now _)), ev_bind hC (ev_pos rfl (ev_bind hI (ev_neg (by simp) (Ev.now _)))), by simp⟩
  | true =>
   rw [h1] at hS hI
   have hn := shelf_len h1
   by_cases h3 : (l.length : Int) = 20
   ·exact ⟨[], false, ev_bind hS (ev_pos rfl (ev_const (goodS a b c) (ev_pos h2 (ev_pos h3 (Ev.now _))))), ev_bind hC (ev_pos rfl (ev_bind hI (ev_pos rfl (ev_pos h3 (Ev.now _))))), by simp⟩
   ·refine ⟨l ++ [⟨a, b, commitM a b c, c, false⟩], true, ev_bind hS (ev_pos rfl (ev_const (goodS a b c) (ev_pos h2 (ev_neg h3 (ev_bind (commitS a b c h2) (ev_const (a := []) rfl (ev_pos (by simp only [List.length_nil]; omega) (ev_const (a := l) rfl (ev_const rfl (ev_pos (by simp only [List.length_cons, List.length_nil]; omega) (Ev.now _))))))))))), ev_bind hC (ev_pos rfl (ev_bind hI (ev_pos rfl (ev_neg h3 (ev_const hcl (ev_pos (by omega) (Ev.now _))))))), by rw [List.length_append]; simp only [List.length_cons, List.length_nil]; omega⟩
end Go.Proofs.Ythhkkhnjkoacnaa.Pure
end
section
namespace Go.Proofs.Ythhkkhnjkoacnaa.Pure
open Go.RowKit Go.Proofs.YthhkkhnjkoacnaaW.PrintWords Go.Proofs.YthhkkhnjkoacnaaW.PrintLast Go.Proofs.YthhkkhnjkoacnaaW.PrintMore Go.Proofs.Ythhkkhnjkoacnaa.PB Go.Proofs.Ythhkkhnjkoacnaa.PD Go.Proofs.Ythhkkhnjkoacnaa.PL Go.Proofs.Ythhkkhnjkoacnaa.PQ Go.Proofs.Ythhkkhnjkoacnaa.PV Go.Proofs.Ythhkkhnjkoacnaa.PZ Go.Proofs.Ythhkkhnjkoacnaa.PM Go.Proofs.Ythhkkhnjkoacnaa.PN Go.Proofs.Ythhkkhnjkoacnaa.PC Go.Proofs.Ythhkkhnjkoacnaa.PF Go.Proofs.Ythhkkhnjkoacnaa.PH Go.Proofs.Ythhkkhnjkoacnaa.PA
set_option linter.unusedVariables false
theorem commitOfS (a b c : ByteArray) : Ev (fun k => spec_CommitOf.f k a b c) (if threeOk a b c = true then (commitM a b c, true) else (⟨#[]⟩, false)) := by
 unfold spec_CommitOf.f
 cases h : threeOk a b c with
 | false => exact ev_const (goodS a b c) (ev_neg (by simp [h]) (Ev.now _))
 | true => exact ev_const (goodS a b c) (ev_pos h (ev_bind (commitS a b c h) (Ev.now _)))
theorem drawShelf {c : List Int} (hc : Bys c) : ∃ l a b d, Ev (fun k => spec_DrawPutSlot.f k c) (l, a, b, d) ∧ l.length ≤ 20 := by
 obtain ⟨l, i1, s1, e1, hl, h1, h2⟩ := shelf_d hc 0 0 (by omega) (by omega)
 obtain ⟨a, i2, s2, e2, _, h3, h4⟩ := slotName_d hc i1 s1 (by omega) (by omega)
 obtain ⟨b, i3, s3, e3, _, h5, h6⟩ := slotName_d hc i2 s2 (by omega) (by omega)
 obtain ⟨d, i4, s4, e4, _, h7, h8⟩ := of_d hc i3 s3 [(⟨#[]⟩ : ByteArray), (⟨#[98, 111, 100, 121]⟩ : ByteArray), strOfNums (List.replicate 41 0)] (by omega) (by omega) (by decide)
 exact ⟨l, a, b, d, ev_bind e1 (ev_const e2 (ev_const e3 (ev_pos (by omega) (ev_const e4 (Ev.now _))))), hl⟩
theorem drawCommit {c : List Int} (hc : Bys c) : ∃ a b d, spec_DrawCommitOf.f c = some (a, b, d) := by
 obtain ⟨a, i2, s2, e2, _, h3, h4⟩ := slotName_d hc 0 0 (by omega) (by omega)
 obtain ⟨b, i3, s3, e3, _, h5, h6⟩ := slotName_d hc i2 s2 (by omega) (by omega)
 obtain ⟨d, i4, s4, e4, _, h7, h8⟩ := of_d hc i3 s3 [(⟨#[]⟩ : ByteArray), (⟨#[98, 111, 100, 121]⟩ : ByteArray), strOfNums (List.replicate 40 0), strOfNums (List.replicate 41 0)] (by omega) (by omega) (by decide)
 refine ⟨a, b, d, ?_⟩
 unfold spec_DrawCommitOf.f
 rw [e2, Option.bind_some]
 dsimp only
 rw [e3, Option.bind_some, if_pos (by omega), if_pos (by omega)]
 dsimp only
 rw [e4, Option.bind_some]
theorem textsM_len (l : List S40) : (textsM l).length = l.length := by simp [textsM]
theorem showM_facts (l : List S40) (k0 : Int) (hl : l.length ≤ 20) : (showM l k0).2.2.2.2.2.1.length ≤ 20 ∧ (showM l k0).1.size ≤ 8 ∧ (showM l k0).2.2.1.size ≤ 4 := by
 unfold showM
 split
 ·rename_i h
  simp only [Bool.and_eq_true, decide_eq_true_eq] at h
  obtain ⟨n, rfl⟩ := Int.eq_ofNat_of_zero_le h.2.1
  have hn : n < l.length := by omega
  have hf := slotB_facts (shelf_mem h.1 _ (List.getElem_mem hn))
  dsimp only
  rw [PV.rdI_at l n hn]
  exact ⟨by rw [textsM_len]; exact hl, hf.2.1, by omega⟩
 ·exact ⟨by simp, by decide, by decide⟩
theorem drawCheck {c : List Int} (hc : Bys c) : ∃ dg k0 a b d e o l, Ev (fun k => spec_DrawCheckSlot.f k c) (dg, k0, a, b, d, e, o, l) ∧ l.length ≤ 20 ∧ a.size + d.size ≤ 12 := by
 obtain ⟨l, k0, hd, hl⟩ := drawTakeOut hc
 obtain ⟨p, i1, s1, e1, _, h1, h2⟩ := pick_d hc 0 0 8 (by omega) (by omega) (by omega)
 have hS := shelfDigestS l (by omega)
 have hW := showS l k0 (by omega)
 have hF := showM_facts l k0 hl
 obtain ⟨⟨a, b, d, e, o, t, f⟩, hM⟩ : ∃ z, showM l k0 = z := ⟨_, rfl⟩
 rw [hM] at hW hF
 dsimp only at hF
 have go : ∀ {g : Nat → Option (ByteArray × Int × ByteArray × ByteArray × ByteArray × ByteArray × Bool × List ByteArray)} {r}, Ev g r → Ev g r := fun h => h
 by_cases p0 : p = 0
 ·exact ⟨_, _, _, _, _, _, _, _, ev_bind hd (ev_bind hS (ev_bind hW (ev_const e1 (ev_pos p0 (Ev.now _))))), hF.1, by dsimp only; omega⟩
 ·by_cases p1 : p = 1
  ·cases f with
   | true =>
    have hf : (showM l k0).2.2.2.2.2.2 = true := by rw [hM]
    have ht : t.length = l.length ∧ 0 < l.length := by
     unfold showM at hM hf
     split at hf
     ·rename_i h
      rw [if_pos h] at hM
      simp only [Bool.and_eq_true, decide_eq_true_eq] at h
      have : t = textsM l := by injection hM with _ hM; injection hM with _ hM; injection hM with _ hM; injection hM with _ hM; injection hM with _ hM; injection hM with hM _; exact hM.symm
      rw [this, textsM_len]
      exact ⟨rfl, by omega⟩
     ·cases hf
    exact ⟨_, _, _, _, _, _, _, _, ev_bind hd (ev_bind hS (ev_bind hW (ev_const e1 (ev_neg p0 (ev_pos p1 (ev_pos rfl (ev_pos (by dsimp only; omega) (Ev.now _)))))))), by rw [List.length_set]; exact hF.1, by dsimp only; omega⟩
   | false => exact ⟨_, _, _, _, _, _, _, _, ev_bind hd (ev_bind hS (ev_bind hW (ev_const e1 (ev_neg p0 (ev_pos p1 (ev_neg (by simp) (Ev.now _))))))), hF.1, by dsimp only; omega⟩
  ·by_cases p2 : p = 2
   ·exact ⟨_, _, _, _, _, _, _, _, ev_bind hd (ev_bind hS (ev_bind hW (ev_const e1 (ev_neg p0 (ev_neg p1 (ev_pos p2 (Ev.now _))))))), hF.1, by dsimp only; omega⟩
   ·exact ⟨_, _, _, _, _, _, _, _, ev_bind hd (ev_bind hS (ev_bind hW (ev_const e1 (ev_neg p0 (ev_neg p1 (ev_neg p2 (Ev.now _))))))), hF.1, by dsimp only; omega⟩
theorem put_shape (l : List S40) (a b c : ByteArray) (hl : l.length ≤ 2000000) : ∃ t f, Ev (fun k => spec_PutSlot.f k l a b c) (t, f) ∧ Ev (fun k => impl_PutSlot.f k l a b c) (t, f) ∧ t.length ≤ 2000000 ∧ (f = true → shelfOk l = true ∧ l.length < 20 ∧ threeOk a b c = true ∧ t = l ++ [⟨a, b, commitM a b c, c, false⟩]) := by
 obtain ⟨t, f, h1, h2, h3⟩ := putSlot_two l a b c hl
 refine ⟨t, f, h1, h2, h3, fun hf => ?_⟩
 subst hf
 have hS := goodShelfS l hl
 cases hb : shelfOk l with
 | false =>
  rw [hb] at hS
  have := ev_unique h1 (ev_bind hS (ev_neg (by simp) (Ev.now ([], false))))
  cases this
 | true =>
  rw [hb] at hS
  cases hc : threeOk a b c with
  | false =>
   have := ev_unique h1 (ev_bind hS (ev_pos rfl (ev_const (goodS a b c) (ev_neg (by simp [hc]) (Ev.now ([], false))))))
   cases this
  | true =>
   have hn := shelf_len hb
   by_cases h4 : (l.length : Int) = 20
   ·have := ev_unique h1 (ev_bind hS (ev_pos rfl (ev_const (goodS a b c) (ev_pos hc (ev_pos h4 (Ev.now ([], false)))))))
    cases this
   ·have := ev_unique h1 (ev_bind hS (ev_pos rfl (ev_const (goodS a b c) (ev_pos hc (ev_neg h4 (ev_bind (commitS a b c hc) (ev_const (a := []) rfl (ev_pos (by simp only [List.length_nil]; omega) (ev_const (a := l) rfl (ev_const rfl (ev_pos (by simp only [List.length_cons, List.length_nil]; omega) (Ev.now _))))))))))))
    injection this with this _
    exact ⟨rfl, by omega, rfl, this⟩
theorem put_good (l : List S40) (a b c : ByteArray) (h : shelfOk l = true) (hn : l.length < 20) (hc : threeOk a b c = true) : shelfOk (l ++ [⟨a, b, commitM a b c, c, false⟩]) = true := by
 unfold shelfOk
 rw [List.length_append, decide_eq_true (by simp only [List.length_cons, List.length_nil]; omega), Bool.true_and, List.all_append, Bool.and_eq_true]
 refine ⟨List.all_eq_true.2 (shelf_mem h), ?_⟩
 simp only [List.all_cons, List.all_nil, Bool.and_true]
 unfold slotB slotOk
 dsimp only
 rw [if_neg (by simp)]
 simp [hc]
theorem FnShelf : laws_FnShelf.Pure := by
 intro l0 l1 hl0 hm0 hc0 hl1 hm1 hc1
 refine Ev.rounds ?_
 unfold laws_FnShelf.f
 by_cases hsz : wrap64 ((l0.length : Int) + (l1.length : Int)) > 1048576
 ·exact ev_pos hsz (Ev.now _)
 refine ev_neg hsz ?_
 clear hsz
 have c0 := code_of l0 hc0
 have c1 := code_of l1 hc1
 obtain ⟨l, k0, hd, hl⟩ := drawTakeOut c0
 have hd' : Ev (fun k => spec_DrawShowSlot.f k l0) (l, k0) := ev_bind hd (Ev.now _)
 have hI := showI l k0 (by omega)
 have hS := showS l k0 (by omega)
 have dI := shelfDigestI l (by omega)
 have dS := shelfDigestS l (by omega)
 have hF := showM_facts l k0 hl
 -- the second half
 have tail : Ev (fun k => laws_FnShelf.j1 k l1) true := by
  obtain ⟨dg, q, a, b, d, e, o, t, hk, ht, had⟩ := drawCheck c1
  obtain ⟨⟨r1, r2⟩, k1, k2⟩ := checkSlot_two dg q a b d e o t (by omega) (by omega)
  obtain ⟨m, na, sa, bo, hp, hm⟩ := drawShelf c1
  obtain ⟨p, f, p1, p2, hpl, hpf⟩ := put_shape m na sa bo (by omega)
  obtain ⟨x, y, z, hcm⟩ := drawCommit c1
  have q1 := commitI x y z
  have q2 := commitOfS x y z
  obtain ⟨cc, hcc⟩ : ∃ c, (if threeOk x y z = true then (commitM x y z, true) else (⟨#[]⟩, false)) = c := ⟨_, rfl⟩
  rw [hcc] at q1 q2
  refine Ev.step (f := fun k => _) (fun k => by simp only [laws_FnShelf.j1]; rfl) ?_
  refine ev_bind hk (ev_bind k2 (ev_bind k1 (ev_bind hp (ev_bind p2 (ev_bind p1 (ev_const hcm (ev_bind q1 (ev_bind q2 ?_))))))))
  refine ev_neg (by simp) (ev_neg (by simp) (ev_neg (by simp) (ev_bind (sameSlots_yes p hpl) (ev_pos rfl (ev_neg (by simp) ?_)))))
  simp only [bne_self_eq_false]
  refine Ev.step (f := fun k => _) (fun k => by simp only [laws_FnShelf.j2]; rfl) ?_
  refine ev_neg (by simp) ?_
  cases f with
  | false => exact ev_neg (by simp) (Ev.now _)
  | true =>
   obtain ⟨g1, g2, g3, rfl⟩ := hpf rfl
   have hg := put_good m na sa bo g1 g2 g3
   have hB := bodyI (m ++ [⟨na, sa, commitM na sa bo, bo, false⟩]) (m.length : Int) (by rw [List.length_append]; simp only [List.length_cons, List.length_nil]; omega)
   have er : rd_T40 (m ++ [⟨na, sa, commitM na sa bo, bo, false⟩]) (m.length : Int) = ⟨na, sa, commitM na sa bo, bo, false⟩ := by
    rw [PV.rdI_at _ m.length (by rw [List.length_append]; simp only [List.length_cons, List.length_nil]; omega)]
    simp
   have eb : bodyM (m ++ [⟨na, sa, commitM na sa bo, bo, false⟩]) (m.length : Int) = (bo, true, true) := by
    unfold bodyM
    rw [if_pos (by rw [hg, decide_eq_true (by rw [List.length_append]; simp only [List.length_cons, List.length_nil]; omega)]; rfl), er]
    rfl
   rw [eb] at hB
   have hC := commitI na sa bo
   rw [if_pos g3] at hC
   refine ev_pos rfl (ev_bind hB (ev_bind hC (ev_pos rfl (ev_pos rfl (ev_pos rfl (ev_pos rfl (ev_pos (by omega) (ev_pos (by rw [List.length_append]; simp only [List.length_cons, List.length_nil]; omega) (ev_eq (Ev.now _) ?_)))))))))
   rw [er]
   simp
 refine ev_bind hd' (ev_bind hI (ev_bind hS (ev_bind dI (ev_bind dS (ev_neg (by simp) (ev_neg (by simp) (ev_bind (sameTexts_yes _ (by omega)) (ev_pos rfl (ev_neg (by simp) ?_)))))))))
 simp only [bne_self_eq_false]
 refine Ev.step (f := fun k => _) (fun k => by simp only [laws_FnShelf.j0]; rfl) ?_
 refine ev_neg (by simp) ?_
 cases hb : (shelfOk l && decide (0 ≤ k0 ∧ k0 < (l.length : Int))) with
 | false =>
  have e : (showM l k0).2.2.2.2.2.2 = false := by unfold showM; rw [if_neg (by rw [hb]; simp)]
  exact ev_neg (by simp [e]) tail
 | true =>
  simp only [Bool.and_eq_true, decide_eq_true_eq] at hb
  obtain ⟨hg, h0, h1⟩ := hb
  obtain ⟨n, rfl⟩ := Int.eq_ofNat_of_zero_le h0
  have hn : n < l.length := by omega
  have e4 : showM l (n : Int) = (l[n].f0, l[n].f1, l[n].f2, l[n].f3, l[n].f4, textsM l, true) := by
   unfold showM
   rw [if_pos (by rw [hg, decide_eq_true ⟨by omega, by omega⟩]; rfl), PV.rdI_at l n hn]
  have e5 : shelfDigestM l = (dig 115 (rowM (textsM l)), true) := by unfold shelfDigestM; rw [if_pos hg]
  rw [e4, e5]
  exact ev_pos rfl (ev_bind (shown_held l n hn hg) (ev_pos rfl (ev_pos rfl (ev_pos rfl tail))))
end Go.Proofs.Ythhkkhnjkoacnaa.Pure
end
