/- For the law FnSeals (laid by merge.py). -/
import Derived.Test.YthhkkhnjkoacnaaMFnSealse
import Derived.Laws.BitsLemmas
section
namespace Go.Proofs.Ythhkkhnjkoacnaa.PA
open Go.RowKit Go.Proofs.YthhkkhnjkoacnaaW.PrintWords Go.Proofs.YthhkkhnjkoacnaaW.PrintLast Go.Proofs.YthhkkhnjkoacnaaW.PrintMore
attribute [local go_sem] max2_int min2_int max_two min_two max_three min_three max_four min_four
set_option linter.unusedVariables false
set_option linter.unusedSimpArgs false
set_option maxHeartbeats 60000000
set_option maxRecDepth 100000
attribute [local go_sem high] eqA71
mutual
def laws_FnSeals.j0 : Nat → List Int → ByteArray → Bool → Int → Bool → Bool → ByteArray → Int → ByteArray → Int → Int → List ByteArray → List ByteArray → Option (Bool)
 | 0, _, _, _, _, _, _, _, _, _, _, _, _, _ => none
 | k + 1, x1, x6, x9, x13, x14, x94, x10, x11, x12, x15, x16, x17, x18 => if x94 = true then (some false) else (if x9 = true then ((impl_TopOf.f k x10).bind fun bt19 => ((impl_CheckSeal.f k bt19.1 x6 x16 x17 x18).bind fun bt20 => ((impl_LeftIn.f x12 x15).bind fun bt21 => (if bt19.2 = true then (if bt20.2 = true then (if bt20.1 = true then (if bt21.2 = true then (if bt21.1 = (wrap64 (x13 - 1)) then (if x16 = x11 then ((impl_GoodSigner.f x12 x15).bind fun t22 => (if t22 = true then (laws_FnSeals.j1 k x1 x9 x13 x14) else (some false))) else (some false)) else (some false)) else (some false)) else (some false)) else (some false)) else (some false))))) else (laws_FnSeals.j1 k x1 x9 x13 x14))
def laws_FnSeals.j1 : Nat → List Int → Bool → Int → Bool → Option (Bool)
 | 0, _, _, _, _ => none
 | k + 1, x1, x9, x13, x14 => if x14 = true then (if x13 = 0 then (laws_FnSeals.j2 k x1 x9) else (laws_FnSeals.j2 k x1 false)) else (laws_FnSeals.j2 k x1 false)
def laws_FnSeals.j2 : Nat → List Int → Bool → Option (Bool)
 | 0, _, _ => none
 | k + 1, x1, x23 => if x23 = true then (some false) else ((spec_DrawCheckSeal.f k x1).bind fun bt24 => ((impl_CheckSeal.f k bt24.1 bt24.2.1 bt24.2.2.1 bt24.2.2.2.1 bt24.2.2.2.2).bind fun bt25 => ((spec_CheckSeal.f k bt24.1 bt24.2.1 bt24.2.2.1 bt24.2.2.2.1 bt24.2.2.2.2).bind fun bt26 => (if (bt25.2 == bt26.2) = true then (some (bt25.1 == bt26.1)) else (some false)))))
end
def laws_FnSeals.f (k : Nat) (l0 : List Int) (l1 : List Int) : Option (Bool) := if (wrap64 ((l0.length : Int) + (l1.length : Int))) > 1048576 then (some true) else ((spec_DrawSealText.f l0).bind fun bt10 => ((impl_SealText.f k bt10.1 bt10.2.1 bt10.2.2).bind fun bt11 => ((spec_SealText.f k bt10.1 bt10.2.1 bt10.2.2).bind fun bt12 => ((impl_LeftIn.f bt10.1 bt10.2.1).bind fun bt13 => ((spec_LeftIn.f bt10.1 bt10.2.1).bind fun bt14 => (if (bt11.2.2.2.2.2 != bt12.2.2.2.2.2) = true then (laws_FnSeals.j0 k l1 bt10.2.2 bt11.2.2.2.2.2 bt13.1 bt13.2 true bt10.1 bt10.2.1 bt11.1 bt11.2.1 bt11.2.2.1 bt11.2.2.2.1 bt11.2.2.2.2.1) else (if (!(bt11.1.toList == bt12.1.toList) || (!(bt11.2.1 == bt12.2.1))) = true then (laws_FnSeals.j0 k l1 bt10.2.2 bt11.2.2.2.2.2 bt13.1 bt13.2 true bt10.1 bt10.2.1 bt11.1 bt11.2.1 bt11.2.2.1 bt11.2.2.2.1 bt11.2.2.2.2.1) else ((laws_sameSeal.f k bt11.2.2.1 bt11.2.2.2.1 bt11.2.2.2.2.1 bt12.2.2.1 bt12.2.2.2.1 bt12.2.2.2.2.1).bind fun t15 => (if t15 = true then (if (bt13.2 != bt14.2) = true then (laws_FnSeals.j0 k l1 bt10.2.2 bt11.2.2.2.2.2 bt13.1 bt13.2 true bt10.1 bt10.2.1 bt11.1 bt11.2.1 bt11.2.2.1 bt11.2.2.2.1 bt11.2.2.2.2.1) else (if bt13.1 = bt14.1 then ((impl_GoodSigner.f bt10.1 bt10.2.1).bind fun t16 => (laws_FnSeals.j0 k l1 bt10.2.2 bt11.2.2.2.2.2 bt13.1 bt13.2 (t16 != bt14.2) bt10.1 bt10.2.1 bt11.1 bt11.2.1 bt11.2.2.1 bt11.2.2.2.1 bt11.2.2.2.2.1)) else (laws_FnSeals.j0 k l1 bt10.2.2 bt11.2.2.2.2.2 bt13.1 bt13.2 true bt10.1 bt10.2.1 bt11.1 bt11.2.1 bt11.2.2.1 bt11.2.2.2.1 bt11.2.2.2.2.1))) else (laws_FnSeals.j0 k l1 bt10.2.2 bt11.2.2.2.2.2 bt13.1 bt13.2 true bt10.1 bt10.2.1 bt11.1 bt11.2.1 bt11.2.2.1 bt11.2.2.2.1 bt11.2.2.2.2.1))))))))))
theorem laws_FnSeals.calls (k : Nat) (A0 : Option Addr) (c0 : Nat) (l0 : List Int) (A1 : Option Addr) (c1 : Nat) (l1 : List Int) (r : Bool) (w : World) (hr0 : Kd.C (Kd.int .u8) w A0 l0.length l0) (hc0 : l0.length ≤ c0) (hr1 : Kd.C (Kd.int .u8) w A1 l1.length l1) (hc1 : l1.length ≤ c1) (h : laws_FnSeals.f k l0 l1 = some r) (hr_ : Aside0 (r = true)) :
  Calls Try.prog 6 #[.slice A0 l0.length c0, .slice A1 l1.length c1] w fun e w' => e = .returned (.bool r) ∧ Below w.heap.size w w' := by
 have hu71 := Try.underlying71; have hu75 := Try.underlying75; have HR0 := zA hr0; have HC0 := zA hc0; clear hr0 hc0; have HR1 := zA hr1; have HC1 := zA hc1; clear hr1 hc1; have HB := zA (Below.refl w.heap.size w); have H : (if (wrap64 ((l0.length : Int) + (l1.length : Int))) > 1048576 then (some true) else ((spec_DrawSealText.f l0).bind fun bt100 => ((impl_SealText.f k bt100.1 bt100.2.1 bt100.2.2).bind fun bt461 => ((spec_SealText.f k bt100.1 bt100.2.1 bt100.2.2).bind fun bt473 => ((impl_LeftIn.f bt100.1 bt100.2.1).bind fun bt485 => ((spec_LeftIn.f bt100.1 bt100.2.1).bind fun bt487 => (if (bt461.2.2.2.2.2 != bt473.2.2.2.2.2) = true then (laws_FnSeals.j0 k l1 bt100.2.2 bt461.2.2.2.2.2 bt485.1 bt485.2 true bt100.1 bt100.2.1 bt461.1 bt461.2.1 bt461.2.2.1 bt461.2.2.2.1 bt461.2.2.2.2.1) else (if (!(bt461.1.toList == bt473.1.toList) || (!(bt461.2.1 == bt473.2.1))) = true then (laws_FnSeals.j0 k l1 bt100.2.2 bt461.2.2.2.2.2 bt485.1 bt485.2 true bt100.1 bt100.2.1 bt461.1 bt461.2.1 bt461.2.2.1 bt461.2.2.2.1 bt461.2.2.2.2.1) else ((laws_sameSeal.f k bt461.2.2.1 bt461.2.2.2.1 bt461.2.2.2.2.1 bt473.2.2.1 bt473.2.2.2.1 bt473.2.2.2.2.1).bind fun t489 => (if t489 = true then (if (bt485.2 != bt487.2) = true then (laws_FnSeals.j0 k l1 bt100.2.2 bt461.2.2.2.2.2 bt485.1 bt485.2 true bt100.1 bt100.2.1 bt461.1 bt461.2.1 bt461.2.2.1 bt461.2.2.2.1 bt461.2.2.2.2.1) else (if bt485.1 = bt487.1 then ((impl_GoodSigner.f bt100.1 bt100.2.1).bind fun t490 => (laws_FnSeals.j0 k l1 bt100.2.2 bt461.2.2.2.2.2 bt485.1 bt485.2 (t490 != bt487.2) bt100.1 bt100.2.1 bt461.1 bt461.2.1 bt461.2.2.1 bt461.2.2.2.1 bt461.2.2.2.2.1)) else (laws_FnSeals.j0 k l1 bt100.2.2 bt461.2.2.2.2.2 bt485.1 bt485.2 true bt100.1 bt100.2.1 bt461.1 bt461.2.1 bt461.2.2.1 bt461.2.2.2.1 bt461.2.2.2.2.1))) else (laws_FnSeals.j0 k l1 bt100.2.2 bt461.2.2.2.2.2 bt485.1 bt485.2 true bt100.1 bt100.2.1 bt461.1 bt461.2.1 bt461.2.2.1 bt461.2.2.2.1 bt461.2.2.2.2.1))))))))))) = some r := h; clear h
 by_cases c3 : (wrap64 ((l0.length : Int) + (l1.length : Int))) > 1048576
 ·rw [if_pos c3] at H
  have c3b0 : decide (1048576 < (wrap64 ((l0.length : Int) + (l1.length : Int)))) = true := zX c3; clear c3
  as_aux_lemma =>
   obtain rfl := yM H; go_enter Try.func6, Try.ntmps6; go_wp2; go_ret; exact ⟨by first | rfl | (simp <;> rfl) | (simp [*] <;> rfl), by (with_reducible repeat first | exact HB.out | apply zH | apply zF | apply zG) <;> exact HB.out⟩
 ·rw [if_neg c3] at H
  have c3b0 : decide (1048576 < (wrap64 ((l0.length : Int) + (l1.length : Int)))) = false := decide_eq_false c3; clear c3; replace H := zAF H; obtain ⟨⟨t100, t458, t459⟩, A40, H⟩ := H; replace H : ((impl_SealText.f k t100 t458 t459).bind fun bt461 => ((spec_SealText.f k t100 t458 t459).bind fun bt473 => ((impl_LeftIn.f t100 t458).bind fun bt485 => ((spec_LeftIn.f t100 t458).bind fun bt487 => (if (bt461.2.2.2.2.2 != bt473.2.2.2.2.2) = true then (laws_FnSeals.j0 k l1 t459 bt461.2.2.2.2.2 bt485.1 bt485.2 true t100 t458 bt461.1 bt461.2.1 bt461.2.2.1 bt461.2.2.2.1 bt461.2.2.2.2.1) else (if (!(bt461.1.toList == bt473.1.toList) || (!(bt461.2.1 == bt473.2.1))) = true then (laws_FnSeals.j0 k l1 t459 bt461.2.2.2.2.2 bt485.1 bt485.2 true t100 t458 bt461.1 bt461.2.1 bt461.2.2.1 bt461.2.2.2.1 bt461.2.2.2.2.1) else ((laws_sameSeal.f k bt461.2.2.1 bt461.2.2.2.1 bt461.2.2.2.2.1 bt473.2.2.1 bt473.2.2.2.1 bt473.2.2.2.2.1).bind fun t489 => (if t489 = true then (if (bt485.2 != bt487.2) = true then (laws_FnSeals.j0 k l1 t459 bt461.2.2.2.2.2 bt485.1 bt485.2 true t100 t458 bt461.1 bt461.2.1 bt461.2.2.1 bt461.2.2.2.1 bt461.2.2.2.2.1) else (if bt485.1 = bt487.1 then ((impl_GoodSigner.f t100 t458).bind fun t490 => (laws_FnSeals.j0 k l1 t459 bt461.2.2.2.2.2 bt485.1 bt485.2 (t490 != bt487.2) t100 t458 bt461.1 bt461.2.1 bt461.2.2.1 bt461.2.2.2.1 bt461.2.2.2.2.1)) else (laws_FnSeals.j0 k l1 t459 bt461.2.2.2.2.2 bt485.1 bt485.2 true t100 t458 bt461.1 bt461.2.1 bt461.2.2.1 bt461.2.2.2.1 bt461.2.2.2.2.1))) else (laws_FnSeals.j0 k l1 t459 bt461.2.2.2.2.2 bt485.1 bt485.2 true t100 t458 bt461.1 bt461.2.1 bt461.2.2.1 bt461.2.2.2.1 bt461.2.2.2.2.1))))))))) = some r := H; have A4 := zA A40; clear A40; replace H := zAF H; obtain ⟨⟨t461, t462, t463, t464, t467, t470⟩, A50, H⟩ := H; replace H : ((spec_SealText.f k t100 t458 t459).bind fun bt473 => ((impl_LeftIn.f t100 t458).bind fun bt485 => ((spec_LeftIn.f t100 t458).bind fun bt487 => (if (t470 != bt473.2.2.2.2.2) = true then (laws_FnSeals.j0 k l1 t459 t470 bt485.1 bt485.2 true t100 t458 t461 t462 t463 t464 t467) else (if (!(t461.toList == bt473.1.toList) || (!(t462 == bt473.2.1))) = true then (laws_FnSeals.j0 k l1 t459 t470 bt485.1 bt485.2 true t100 t458 t461 t462 t463 t464 t467) else ((laws_sameSeal.f k t463 t464 t467 bt473.2.2.1 bt473.2.2.2.1 bt473.2.2.2.2.1).bind fun t489 => (if t489 = true then (if (bt485.2 != bt487.2) = true then (laws_FnSeals.j0 k l1 t459 t470 bt485.1 bt485.2 true t100 t458 t461 t462 t463 t464 t467) else (if bt485.1 = bt487.1 then ((impl_GoodSigner.f t100 t458).bind fun t490 => (laws_FnSeals.j0 k l1 t459 t470 bt485.1 bt485.2 (t490 != bt487.2) t100 t458 t461 t462 t463 t464 t467)) else (laws_FnSeals.j0 k l1 t459 t470 bt485.1 bt485.2 true t100 t458 t461 t462 t463 t464 t467))) else (laws_FnSeals.j0 k l1 t459 t470 bt485.1 bt485.2 true t100 t458 t461 t462 t463 t464 t467)))))))) = some r := H; have A5 := zA A50; clear A50; replace H := zAF H; obtain ⟨⟨t473, t474, t475, t476, t479, t482⟩, A60, H⟩ := H; replace H : ((impl_LeftIn.f t100 t458).bind fun bt485 => ((spec_LeftIn.f t100 t458).bind fun bt487 => (if (t470 != t482) = true then (laws_FnSeals.j0 k l1 t459 t470 bt485.1 bt485.2 true t100 t458 t461 t462 t463 t464 t467) else (if (!(t461.toList == t473.toList) || (!(t462 == t474))) = true then (laws_FnSeals.j0 k l1 t459 t470 bt485.1 bt485.2 true t100 t458 t461 t462 t463 t464 t467) else ((laws_sameSeal.f k t463 t464 t467 t475 t476 t479).bind fun t489 => (if t489 = true then (if (bt485.2 != bt487.2) = true then (laws_FnSeals.j0 k l1 t459 t470 bt485.1 bt485.2 true t100 t458 t461 t462 t463 t464 t467) else (if bt485.1 = bt487.1 then ((impl_GoodSigner.f t100 t458).bind fun t490 => (laws_FnSeals.j0 k l1 t459 t470 bt485.1 bt485.2 (t490 != bt487.2) t100 t458 t461 t462 t463 t464 t467)) else (laws_FnSeals.j0 k l1 t459 t470 bt485.1 bt485.2 true t100 t458 t461 t462 t463 t464 t467))) else (laws_FnSeals.j0 k l1 t459 t470 bt485.1 bt485.2 true t100 t458 t461 t462 t463 t464 t467))))))) = some r := H; have A6 := zA A60; clear A60; replace H := zAF H; obtain ⟨⟨t485, t486⟩, A70, H⟩ := H; replace H : ((spec_LeftIn.f t100 t458).bind fun bt487 => (if (t470 != t482) = true then (laws_FnSeals.j0 k l1 t459 t470 t485 t486 true t100 t458 t461 t462 t463 t464 t467) else (if (!(t461.toList == t473.toList) || (!(t462 == t474))) = true then (laws_FnSeals.j0 k l1 t459 t470 t485 t486 true t100 t458 t461 t462 t463 t464 t467) else ((laws_sameSeal.f k t463 t464 t467 t475 t476 t479).bind fun t489 => (if t489 = true then (if (t486 != bt487.2) = true then (laws_FnSeals.j0 k l1 t459 t470 t485 t486 true t100 t458 t461 t462 t463 t464 t467) else (if t485 = bt487.1 then ((impl_GoodSigner.f t100 t458).bind fun t490 => (laws_FnSeals.j0 k l1 t459 t470 t485 t486 (t490 != bt487.2) t100 t458 t461 t462 t463 t464 t467)) else (laws_FnSeals.j0 k l1 t459 t470 t485 t486 true t100 t458 t461 t462 t463 t464 t467))) else (laws_FnSeals.j0 k l1 t459 t470 t485 t486 true t100 t458 t461 t462 t463 t464 t467)))))) = some r := H; have A7 := zA A70; clear A70; replace H := zAF H; obtain ⟨⟨t487, t488⟩, A80, H⟩ := H; replace H : (if (t470 != t482) = true then (laws_FnSeals.j0 k l1 t459 t470 t485 t486 true t100 t458 t461 t462 t463 t464 t467) else (if (!(t461.toList == t473.toList) || (!(t462 == t474))) = true then (laws_FnSeals.j0 k l1 t459 t470 t485 t486 true t100 t458 t461 t462 t463 t464 t467) else ((laws_sameSeal.f k t463 t464 t467 t475 t476 t479).bind fun t489 => (if t489 = true then (if (t486 != t488) = true then (laws_FnSeals.j0 k l1 t459 t470 t485 t486 true t100 t458 t461 t462 t463 t464 t467) else (if t485 = t487 then ((impl_GoodSigner.f t100 t458).bind fun t490 => (laws_FnSeals.j0 k l1 t459 t470 t485 t486 (t490 != t488) t100 t458 t461 t462 t463 t464 t467)) else (laws_FnSeals.j0 k l1 t459 t470 t485 t486 true t100 t458 t461 t462 t463 t464 t467))) else (laws_FnSeals.j0 k l1 t459 t470 t485 t486 true t100 t458 t461 t462 t463 t464 t467))))) = some r := H
  have A8 := zA A80; clear A80; have HC9 := zA H; clear H; go_enter Try.func6, Try.ntmps6; go_upto_region 8 with (first | ((with_reducible refine yB (f := 47) rfl ?_); refine goesL_ (some 38) rfl rfl Try.func47 (by kernel_rfl) rfl #[.slice A0 l0.length c0] rfl (by (try simp only [zAA, zAB, zAC]); first | done | rfl | (simp only [zZ, zY]; rfl)) ?_; (with_reducible refine (spec_DrawSealText.calls _ _ l0 t100 t458 t459 _ ?side1 ?side2 A4.out).mono ?_); (case side1 => repeat (first | exact HR0.out | (with_reducible first | refine zT ?_ _ | refine zU ?_ _ | refine zV ?_))); (case side2 => exact HC0.out); rintro e w10 ⟨rfl, hb⟩; refine ⟨_, rfl, ?_⟩; have n0_ := zA (zAD (by (with_reducible repeat first | exact HB.out | apply zH | apply zF | apply zG) <;> exact HB.out) hb); clear HB; have HB := n0_; clear n0_; (try clear hb)) | ((with_reducible refine gate_dst (N := 5) rfl ?_); refine box_event ?hg (N := 5) ?hd (cs := #[.string (⟨#[]⟩ : ByteArray), .int .i64 0]) (t := 71) ?hr ?_; (case hd => rfl); (case hg => rfl); (case hr => first | (go_simp; done) | (go_simp; rfl)); intro gb460 hg w11 hbox hb; have n0_ := zA (zAD (by (with_reducible repeat first | exact HB.out | apply zH | apply zF | apply zG) <;> exact HB.out) hb); have n1_ := zA (hbox); have n2_ := zA ((by rw [hg]; exact (zAE (by (with_reducible repeat first | exact HB.out | apply zH | apply zF | apply zG) <;> exact HB.out)) : w.heap.size ≤ gb460)); have n3_ := zA ((by rw [hg]; exact (zAE (by (with_reducible repeat first | exact HB.out | apply zH | apply zF | apply zG) <;> exact HB.out)) : w.heap.size ≤ gb460)); clear HB; have HB := n0_; have BK460 := n1_; have GW460 := n2_; have GE460 := n3_; clear n0_ n1_ n2_ n3_; clear hb hbox hg; have hcz12_0 := yL BK460.out 0 (.string (⟨#[]⟩ : ByteArray)) rfl; have hcz12_1 := yL BK460.out 1 (.int .i64 0) rfl; have hfz12_0 := zO BK460.out 0; have hfz12_1 := zO BK460.out 1) | ((with_reducible refine yB (f := 48) rfl ?_); refine goesL_ (some 44) rfl rfl Try.func48 (by kernel_rfl) rfl #[.agg #[.string t100, .int .i64 t458], .string t459] rfl (by (try simp only [zAA, zAB, zAC]); first | done | rfl) ?_; (with_reducible refine (impl_SealText.calls k t100 t458 t459 t461 t462 t463 t464 t467 t470 _ A5.out).mono ?_); rintro e w13 ⟨v465, v468, rfl, ho0, ho1, hb⟩; refine ⟨_, rfl, ?_⟩; have n0_ := zA (Kd.R_lower ho0 (zAE (by repeat (first | (with_reducible first | exact HB.out | apply zH | apply zF | apply zG | refine zI ?_ GE460.out) | exact HB.out)))); have n1_ := zA (Kd.R_lower ho1 (zAE (by repeat (first | (with_reducible first | exact HB.out | apply zH | apply zF | apply zG | refine zI ?_ GE460.out) | exact HB.out)))); have n2_ := zA (yE (g := gb460) (o := .cells #[.string t100, .int .i64 t458] 71 (0, 0)) (by (with_reducible repeat (first | refine zL ?_ _ | refine zN ?_ | refine zM ?_ _)); refine blk_put (cs := #[.string t100, .int .i64 0]) ?_ 1 _ rfl; (with_reducible repeat (first | refine zL ?_ _ | refine zN ?_ | refine zM ?_ _)); refine blk_put (cs := #[.string (⟨#[]⟩ : ByteArray), .int .i64 0]) ?_ 0 _ rfl; (with_reducible repeat (first | refine zL ?_ _ | refine zN ?_ | refine zM ?_ _)); exact BK460.out) hb); have n3_ := zA (zAD (by repeat (first | (with_reducible first | exact HB.out | apply zH | apply zF | apply zG | refine zI ?_ GE460.out) | exact HB.out)) hb); clear BK460; clear HB; have HO466 := n0_; have HO469 := n1_; have BK460 := n2_; have HB := n3_; clear n0_ n1_ n2_ n3_; (try clear hb); (try clear ho0); (try clear ho1)) | ((with_reducible refine gate_dst (N := 7) rfl ?_); refine box_event ?hg (N := 7) ?hd (cs := #[.string (⟨#[]⟩ : ByteArray), .int .i64 0]) (t := 71) ?hr ?_; (case hd => rfl); (case hg => rfl); (case hr => first | (go_simp; done) | (go_simp; rfl)); intro gb471 hg w14 hbox hb; have n0_ := zA (Kd.R_below (by (with_reducible repeat first | apply zQ | apply zR | apply zS); exact HO466.out) hb); have n1_ := zA (Kd.R_below (by (with_reducible repeat first | apply zQ | apply zR | apply zS); exact HO469.out) hb); have n2_ := zA (yE (g := gb460) (o := .cells #[.string t100, .int .i64 t458] 71 (0, 0)) (by (with_reducible repeat (first | refine zL ?_ _ | refine zN ?_ | refine zM ?_ _)); exact BK460.out) hb); have n3_ := zA (zAD (by repeat (first | (with_reducible first | exact HB.out | apply zH | apply zF | apply zG | refine zI ?_ GE460.out) | exact HB.out)) hb); have n4_ := zA (hbox); have n5_ := zA ((by rw [hg]; exact (zAE (by repeat (first | (with_reducible first | exact HB.out | apply zH | apply zF | apply zG | refine zI ?_ GE460.out) | exact HB.out))) : w.heap.size ≤ gb471)); have n6_ := zA ((by rw [hg]; exact (zAE (by repeat (first | (with_reducible first | exact HB.out | apply zH | apply zF | apply zG | refine zI ?_ GE460.out) | exact HB.out))) : w.heap.size ≤ gb471)); have n7_ := zA ((by rw [hg]; exact zK (blk_lt (g := gb460) (o := .cells #[.string t100, .int .i64 t458] 71 (0, 0)) (by (with_reducible repeat (first | refine zL ?_ _ | refine zN ?_ | refine zM ?_ _)); exact BK460.out)) : gb460 ≠ gb471)); have n8_ := zA ((by rw [hg]; exact Nat.ne_of_gt (blk_lt (g := gb460) (o := .cells #[.string t100, .int .i64 t458] 71 (0, 0)) (by (with_reducible repeat (first | refine zL ?_ _ | refine zN ?_ | refine zM ?_ _)); exact BK460.out)) : gb471 ≠ gb460)); clear HO466; clear HO469; clear BK460; clear HB; have HO466 := n0_; have HO469 := n1_; have BK460 := n2_; have HB := n3_; have BK471 := n4_; have GW471 := n5_; have GE471 := n6_; have NB460_471 := n7_; have NB471_460 := n8_; clear n0_ n1_ n2_ n3_ n4_ n5_ n6_ n7_ n8_; clear hb hbox hg) | ((with_reducible refine gate_dst (N := 8) rfl ?_); refine box_event ?hg (N := 8) ?hd (cs := #[.int .i64 0, .slice none 0 0, .slice none 0 0]) (t := 75) ?hr ?_; (case hd => rfl); (case hg => rfl); (case hr => first | (go_simp; done) | (go_simp; rfl)); intro gb472 hg w15 hbox hb; have n0_ := zA (Kd.R_below (by (with_reducible repeat first | apply zQ | apply zR | apply zS); exact HO466.out) hb); have n1_ := zA (Kd.R_below (by (with_reducible repeat first | apply zQ | apply zR | apply zS); exact HO469.out) hb); have n2_ := zA (yE (g := gb460) (o := .cells #[.string t100, .int .i64 t458] 71 (0, 0)) (by (with_reducible repeat (first | refine zL ?_ _ | refine zN ?_ | refine zM ?_ _)); exact BK460.out) hb); have n3_ := zA (yE (g := gb471) (o := .cells #[.string (⟨#[]⟩ : ByteArray), .int .i64 0] 71 (0, 0)) (by (with_reducible repeat (first | refine zL ?_ _ | refine zN ?_ | refine zM ?_ _)); exact BK471.out) hb); have n4_ := zA (zAD (by repeat (first | (with_reducible first | exact HB.out | apply zH | apply zF | apply zG | refine zI ?_ GE460.out | refine zI ?_ GE471.out) | exact HB.out)) hb); have n5_ := zA (hbox); have n6_ := zA ((by rw [hg]; exact (zAE (by repeat (first | (with_reducible first | exact HB.out | apply zH | apply zF | apply zG | refine zI ?_ GE460.out | refine zI ?_ GE471.out) | exact HB.out))) : w.heap.size ≤ gb472)); have n7_ := zA ((by rw [hg]; exact (zAE (by repeat (first | (with_reducible first | exact HB.out | apply zH | apply zF | apply zG | refine zI ?_ GE460.out | refine zI ?_ GE471.out) | exact HB.out))) : w.heap.size ≤ gb472)); have n8_ := zA ((by rw [hg]; exact zK (blk_lt (g := gb460) (o := .cells #[.string t100, .int .i64 t458] 71 (0, 0)) (by (with_reducible repeat (first | refine zL ?_ _ | refine zN ?_ | refine zM ?_ _)); exact BK460.out)) : gb460 ≠ gb472)); have n9_ := zA ((by rw [hg]; exact Nat.ne_of_gt (blk_lt (g := gb460) (o := .cells #[.string t100, .int .i64 t458] 71 (0, 0)) (by (with_reducible repeat (first | refine zL ?_ _ | refine zN ?_ | refine zM ?_ _)); exact BK460.out)) : gb472 ≠ gb460)); have n10_ := zA ((by rw [hg]; exact zK (blk_lt (g := gb471) (o := .cells #[.string (⟨#[]⟩ : ByteArray), .int .i64 0] 71 (0, 0)) (by (with_reducible repeat (first | refine zL ?_ _ | refine zN ?_ | refine zM ?_ _)); exact BK471.out)) : gb471 ≠ gb472)); have n11_ := zA ((by rw [hg]; exact Nat.ne_of_gt (blk_lt (g := gb471) (o := .cells #[.string (⟨#[]⟩ : ByteArray), .int .i64 0] 71 (0, 0)) (by (with_reducible repeat (first | refine zL ?_ _ | refine zN ?_ | refine zM ?_ _)); exact BK471.out)) : gb472 ≠ gb471)); clear HO466; clear HO469; clear BK460; clear BK471; clear HB; have HO466 := n0_; have HO469 := n1_; have BK460 := n2_; have BK471 := n3_; have HB := n4_; have BK472 := n5_; have GW472 := n6_; have GE472 := n7_; have NB460_472 := n8_; have NB472_460 := n9_; have NB471_472 := n10_; have NB472_471 := n11_; clear n0_ n1_ n2_ n3_ n4_ n5_ n6_ n7_ n8_ n9_ n10_ n11_; clear hb hbox hg; have hnb16 := NB471_460.out; have hnc16 := NB460_471.out; have hnb17 := NB471_472.out; have hnc17 := NB472_471.out; have hcz18_0 := yL BK471.out 0 (.string (⟨#[]⟩ : ByteArray)) rfl; have hcz18_1 := yL BK471.out 1 (.int .i64 0) rfl; have hfz18_0 := zO BK471.out 0; have hfz18_1 := zO BK471.out 1; have hnb19 := NB472_460.out; have hnc19 := NB460_472.out; have hcz20_0 := yL BK472.out 0 (.int .i64 0) rfl; have hcz20_1 := yL BK472.out 1 (.slice none 0 0) rfl; have hcz20_2 := yL BK472.out 2 (.slice none 0 0) rfl; have hfz20_0 := zO BK472.out 0; have hfz20_1 := zO BK472.out 1; have hfz20_2 := zO BK472.out 2; obtain ⟨Ao21, co21, eo21⟩ := Kd.R_slice HO466.out; subst eo21; obtain ⟨Ao22, co22, eo22⟩ := Kd.R_slice HO469.out; subst eo22; have hcz23_0 := yL BK460.out 0 (.string t100) rfl; have hcz23_1 := yL BK460.out 1 (.int .i64 t458) rfl; have hfz23_0 := zO BK460.out 0; have hfz23_1 := zO BK460.out 1) | ((with_reducible refine yB (f := 49) rfl ?_); refine goesL_ (some 51) rfl rfl Try.func49 (by kernel_rfl) rfl #[.agg #[.string t100, .int .i64 t458], .string t459] rfl (by (try simp only [zAA, zAB, zAC]); first | done | rfl) ?_; (with_reducible refine (spec_SealText.calls k t100 t458 t459 t473 t474 t475 t476 t479 t482 _ A6.out).mono ?_); rintro e w24 ⟨v477, v480, rfl, ho0, ho1, hb⟩; refine ⟨_, rfl, ?_⟩; have n0_ := zA (yC (Kd.R_told (Kd.R_told (Kd.R_old (by (with_reducible repeat first | apply zQ | apply zR | apply zS); exact (yC (yC (Kd.R_far (p := ⟨gb472, 2, none⟩) (Kd.R_far (p := ⟨gb472, 1, none⟩) (Kd.R_far (p := ⟨gb472, 0, none⟩) (Kd.R_far (p := ⟨gb471, 1, none⟩) (Kd.R_far (p := ⟨gb471, 0, none⟩) (Kd.R_types (Kd.R_types HO466.out BK471.out (by decide)) BK472.out (by decide)) (fun _ hk => hk.1.2) (.string t461)) (fun _ hk => hk.1.2) (.int .i64 t462)) (fun _ hk => hk.2) (.int .i64 t463)) (fun _ hk => hk.2) (.slice Ao21 t464.length co21)) (fun _ hk => hk.2) (.slice Ao22 t467.length co22)) (fun _ h_ => h_.1)) (fun _ h_ => h_.1))) hb) (Kd.R_base ho0)) (Kd.R_base ho1)) (fun _ h_ => h_.1)); have n1_ := zA (yC (Kd.R_told (Kd.R_told (Kd.R_old (by (with_reducible repeat first | apply zQ | apply zR | apply zS); exact (yC (yC (Kd.R_far (p := ⟨gb472, 2, none⟩) (Kd.R_far (p := ⟨gb472, 1, none⟩) (Kd.R_far (p := ⟨gb472, 0, none⟩) (Kd.R_far (p := ⟨gb471, 1, none⟩) (Kd.R_far (p := ⟨gb471, 0, none⟩) (Kd.R_types (Kd.R_types HO469.out BK471.out (by decide)) BK472.out (by decide)) (fun _ hk => hk.1.2) (.string t461)) (fun _ hk => hk.1.2) (.int .i64 t462)) (fun _ hk => hk.2) (.int .i64 t463)) (fun _ hk => hk.2) (.slice Ao21 t464.length co21)) (fun _ hk => hk.2) (.slice Ao22 t467.length co22)) (fun _ h_ => h_.1)) (fun _ h_ => h_.1))) hb) (Kd.R_base ho0)) (Kd.R_base ho1)) (fun _ h_ => h_.1)); have n2_ := zA (Kd.R_lower (yK (yK ho0 (Kd.R_lt (by (with_reducible repeat first | apply zQ | apply zR | apply zS); exact (yC (yC (Kd.R_far (p := ⟨gb472, 2, none⟩) (Kd.R_far (p := ⟨gb472, 1, none⟩) (Kd.R_far (p := ⟨gb472, 0, none⟩) (Kd.R_far (p := ⟨gb471, 1, none⟩) (Kd.R_far (p := ⟨gb471, 0, none⟩) (Kd.R_types (Kd.R_types HO466.out BK471.out (by decide)) BK472.out (by decide)) (fun _ hk => hk.1.2) (.string t461)) (fun _ hk => hk.1.2) (.int .i64 t462)) (fun _ hk => hk.2) (.int .i64 t463)) (fun _ hk => hk.2) (.slice Ao21 t464.length co21)) (fun _ hk => hk.2) (.slice Ao22 t467.length co22)) (fun _ h_ => h_.1)) (fun _ h_ => h_.1))))) (Kd.R_lt (by (with_reducible repeat first | apply zQ | apply zR | apply zS); exact (yC (yC (Kd.R_far (p := ⟨gb472, 2, none⟩) (Kd.R_far (p := ⟨gb472, 1, none⟩) (Kd.R_far (p := ⟨gb472, 0, none⟩) (Kd.R_far (p := ⟨gb471, 1, none⟩) (Kd.R_far (p := ⟨gb471, 0, none⟩) (Kd.R_types (Kd.R_types HO469.out BK471.out (by decide)) BK472.out (by decide)) (fun _ hk => hk.1.2) (.string t461)) (fun _ hk => hk.1.2) (.int .i64 t462)) (fun _ hk => hk.2) (.int .i64 t463)) (fun _ hk => hk.2) (.slice Ao21 t464.length co21)) (fun _ hk => hk.2) (.slice Ao22 t467.length co22)) (fun _ h_ => h_.1)) (fun _ h_ => h_.1))))) (zAE (by repeat (first | (with_reducible first | exact HB.out | apply zH | apply zF | apply zG | refine zI ?_ GE460.out | refine zI ?_ GE471.out | refine zI ?_ GE472.out) | exact HB.out)))); have n3_ := zA (Kd.R_lower (yK (yK ho1 (Kd.R_lt (by (with_reducible repeat first | apply zQ | apply zR | apply zS); exact (yC (yC (Kd.R_far (p := ⟨gb472, 2, none⟩) (Kd.R_far (p := ⟨gb472, 1, none⟩) (Kd.R_far (p := ⟨gb472, 0, none⟩) (Kd.R_far (p := ⟨gb471, 1, none⟩) (Kd.R_far (p := ⟨gb471, 0, none⟩) (Kd.R_types (Kd.R_types HO466.out BK471.out (by decide)) BK472.out (by decide)) (fun _ hk => hk.1.2) (.string t461)) (fun _ hk => hk.1.2) (.int .i64 t462)) (fun _ hk => hk.2) (.int .i64 t463)) (fun _ hk => hk.2) (.slice Ao21 t464.length co21)) (fun _ hk => hk.2) (.slice Ao22 t467.length co22)) (fun _ h_ => h_.1)) (fun _ h_ => h_.1))))) (Kd.R_lt (by (with_reducible repeat first | apply zQ | apply zR | apply zS); exact (yC (yC (Kd.R_far (p := ⟨gb472, 2, none⟩) (Kd.R_far (p := ⟨gb472, 1, none⟩) (Kd.R_far (p := ⟨gb472, 0, none⟩) (Kd.R_far (p := ⟨gb471, 1, none⟩) (Kd.R_far (p := ⟨gb471, 0, none⟩) (Kd.R_types (Kd.R_types HO469.out BK471.out (by decide)) BK472.out (by decide)) (fun _ hk => hk.1.2) (.string t461)) (fun _ hk => hk.1.2) (.int .i64 t462)) (fun _ hk => hk.2) (.int .i64 t463)) (fun _ hk => hk.2) (.slice Ao21 t464.length co21)) (fun _ hk => hk.2) (.slice Ao22 t467.length co22)) (fun _ h_ => h_.1)) (fun _ h_ => h_.1))))) (zAE (by repeat (first | (with_reducible first | exact HB.out | apply zH | apply zF | apply zG | refine zI ?_ GE460.out | refine zI ?_ GE471.out | refine zI ?_ GE472.out) | exact HB.out)))); have n4_ := zA (yE (g := gb460) (o := .cells #[.string t100, .int .i64 t458] 71 (0, 0)) (by (with_reducible repeat (first | refine zL ?_ _ | refine zN ?_ | refine zM ?_ _)); refine blk_far ?_ NB460_472.out _; (with_reducible repeat (first | refine zL ?_ _ | refine zN ?_ | refine zM ?_ _)); refine blk_far ?_ NB460_472.out _; (with_reducible repeat (first | refine zL ?_ _ | refine zN ?_ | refine zM ?_ _)); refine blk_far ?_ NB460_472.out _; (with_reducible repeat (first | refine zL ?_ _ | refine zN ?_ | refine zM ?_ _)); refine blk_far ?_ NB460_471.out _; (with_reducible repeat (first | refine zL ?_ _ | refine zN ?_ | refine zM ?_ _)); refine blk_far ?_ NB460_471.out _; (with_reducible repeat (first | refine zL ?_ _ | refine zN ?_ | refine zM ?_ _)); exact BK460.out) hb); have n5_ := zA (yE (g := gb471) (o := .cells #[.string t461, .int .i64 t462] 71 (0, 0)) (by (with_reducible repeat (first | refine zL ?_ _ | refine zN ?_ | refine zM ?_ _)); refine blk_far ?_ NB471_472.out _; (with_reducible repeat (first | refine zL ?_ _ | refine zN ?_ | refine zM ?_ _)); refine blk_far ?_ NB471_472.out _; (with_reducible repeat (first | refine zL ?_ _ | refine zN ?_ | refine zM ?_ _)); refine blk_far ?_ NB471_472.out _; (with_reducible repeat (first | refine zL ?_ _ | refine zN ?_ | refine zM ?_ _)); refine blk_put (cs := #[.string t461, .int .i64 0]) ?_ 1 _ rfl; (with_reducible repeat (first | refine zL ?_ _ | refine zN ?_ | refine zM ?_ _)); refine blk_put (cs := #[.string (⟨#[]⟩ : ByteArray), .int .i64 0]) ?_ 0 _ rfl; (with_reducible repeat (first | refine zL ?_ _ | refine zN ?_ | refine zM ?_ _)); exact BK471.out) hb); have n6_ := zA (yE (g := gb472) (o := .cells #[.int .i64 t463, .slice Ao21 t464.length co21, .slice Ao22 t467.length co22] 75 (0, 0)) (by (with_reducible repeat (first | refine zL ?_ _ | refine zN ?_ | refine zM ?_ _)); refine blk_put (cs := #[.int .i64 t463, .slice Ao21 t464.length co21, .slice none 0 0]) ?_ 2 _ rfl; (with_reducible repeat (first | refine zL ?_ _ | refine zN ?_ | refine zM ?_ _)); refine blk_put (cs := #[.int .i64 t463, .slice none 0 0, .slice none 0 0]) ?_ 1 _ rfl; (with_reducible repeat (first | refine zL ?_ _ | refine zN ?_ | refine zM ?_ _)); refine blk_put (cs := #[.int .i64 0, .slice none 0 0, .slice none 0 0]) ?_ 0 _ rfl; (with_reducible repeat (first | refine zL ?_ _ | refine zN ?_ | refine zM ?_ _)); refine blk_far ?_ NB472_471.out _; (with_reducible repeat (first | refine zL ?_ _ | refine zN ?_ | refine zM ?_ _)); refine blk_far ?_ NB472_471.out _; (with_reducible repeat (first | refine zL ?_ _ | refine zN ?_ | refine zM ?_ _)); exact BK472.out) hb); have n7_ := zA (zAD (by repeat (first | (with_reducible first | exact HB.out | apply zH | apply zF | apply zG | refine zI ?_ GE460.out | refine zI ?_ GE471.out | refine zI ?_ GE472.out) | exact HB.out)) hb); clear HO466; clear HO469; clear BK460; clear BK471; clear BK472; clear HB; have HO466 := n0_; have HO469 := n1_; have HO478 := n2_; have HO481 := n3_; have BK460 := n4_; have BK471 := n5_; have BK472 := n6_; have HB := n7_; clear n0_ n1_ n2_ n3_ n4_ n5_ n6_ n7_; (try clear hb); (try clear hk); (try clear ho0); (try clear ho1)) | ((with_reducible refine gate_dst (N := 10) rfl ?_); refine box_event ?hg (N := 10) ?hd (cs := #[.string (⟨#[]⟩ : ByteArray), .int .i64 0]) (t := 71) ?hr ?_; (case hd => rfl); (case hg => rfl); (case hr => first | (go_simp; done) | (go_simp; rfl)); intro gb483 hg w25 hbox hb; have n0_ := zA (Kd.R_below (by (with_reducible repeat first | apply zQ | apply zR | apply zS); exact HO466.out) hb); have n1_ := zA (Kd.R_below (by (with_reducible repeat first | apply zQ | apply zR | apply zS); exact HO469.out) hb); have n2_ := zA (Kd.R_below (by (with_reducible repeat first | apply zQ | apply zR | apply zS); exact HO478.out) hb); have n3_ := zA (Kd.R_below (by (with_reducible repeat first | apply zQ | apply zR | apply zS); exact HO481.out) hb); have n4_ := zA (yE (g := gb460) (o := .cells #[.string t100, .int .i64 t458] 71 (0, 0)) (by (with_reducible repeat (first | refine zL ?_ _ | refine zN ?_ | refine zM ?_ _)); exact BK460.out) hb); have n5_ := zA (yE (g := gb471) (o := .cells #[.string t461, .int .i64 t462] 71 (0, 0)) (by (with_reducible repeat (first | refine zL ?_ _ | refine zN ?_ | refine zM ?_ _)); exact BK471.out) hb); have n6_ := zA (yE (g := gb472) (o := .cells #[.int .i64 t463, .slice Ao21 t464.length co21, .slice Ao22 t467.length co22] 75 (0, 0)) (by (with_reducible repeat (first | refine zL ?_ _ | refine zN ?_ | refine zM ?_ _)); exact BK472.out) hb); have n7_ := zA (zAD (by repeat (first | (with_reducible first | exact HB.out | apply zH | apply zF | apply zG | refine zI ?_ GE460.out | refine zI ?_ GE471.out | refine zI ?_ GE472.out) | exact HB.out)) hb); have n8_ := zA (hbox); have n9_ := zA ((by rw [hg]; exact (zAE (by repeat (first | (with_reducible first | exact HB.out | apply zH | apply zF | apply zG | refine zI ?_ GE460.out | refine zI ?_ GE471.out | refine zI ?_ GE472.out) | exact HB.out))) : w.heap.size ≤ gb483)); have n10_ := zA ((by rw [hg]; exact (zAE (by repeat (first | (with_reducible first | exact HB.out | apply zH | apply zF | apply zG | refine zI ?_ GE460.out | refine zI ?_ GE471.out | refine zI ?_ GE472.out) | exact HB.out))) : w.heap.size ≤ gb483)); have n11_ := zA ((by rw [hg]; exact zK (blk_lt (g := gb460) (o := .cells #[.string t100, .int .i64 t458] 71 (0, 0)) (by (with_reducible repeat (first | refine zL ?_ _ | refine zN ?_ | refine zM ?_ _)); exact BK460.out)) : gb460 ≠ gb483)); have n12_ := zA ((by rw [hg]; exact Nat.ne_of_gt (blk_lt (g := gb460) (o := .cells #[.string t100, .int .i64 t458] 71 (0, 0)) (by (with_reducible repeat (first | refine zL ?_ _ | refine zN ?_ | refine zM ?_ _)); exact BK460.out)) : gb483 ≠ gb460)); have n13_ := zA ((by rw [hg]; exact zK (blk_lt (g := gb471) (o := .cells #[.string t461, .int .i64 t462] 71 (0, 0)) (by (with_reducible repeat (first | refine zL ?_ _ | refine zN ?_ | refine zM ?_ _)); exact BK471.out)) : gb471 ≠ gb483)); have n14_ := zA ((by rw [hg]; exact Nat.ne_of_gt (blk_lt (g := gb471) (o := .cells #[.string t461, .int .i64 t462] 71 (0, 0)) (by (with_reducible repeat (first | refine zL ?_ _ | refine zN ?_ | refine zM ?_ _)); exact BK471.out)) : gb483 ≠ gb471)); have n15_ := zA ((by rw [hg]; exact zK (blk_lt (g := gb472) (o := .cells #[.int .i64 t463, .slice Ao21 t464.length co21, .slice Ao22 t467.length co22] 75 (0, 0)) (by (with_reducible repeat (first | refine zL ?_ _ | refine zN ?_ | refine zM ?_ _)); exact BK472.out)) : gb472 ≠ gb483)); have n16_ := zA ((by rw [hg]; exact Nat.ne_of_gt (blk_lt (g := gb472) (o := .cells #[.int .i64 t463, .slice Ao21 t464.length co21, .slice Ao22 t467.length co22] 75 (0, 0)) (by (with_reducible repeat (first | refine zL ?_ _ | refine zN ?_ | refine zM ?_ _)); exact BK472.out)) : gb483 ≠ gb472)); clear HO466; clear HO469; clear HO478; clear HO481; clear BK460; clear BK471; clear BK472; clear HB; have HO466 := n0_; have HO469 := n1_; have HO478 := n2_; have HO481 := n3_; have BK460 := n4_; have BK471 := n5_; have BK472 := n6_; have HB := n7_; have BK483 := n8_; have GW483 := n9_; have GE483 := n10_; have NB460_483 := n11_; have NB483_460 := n12_; have NB471_483 := n13_; have NB483_471 := n14_; have NB472_483 := n15_; have NB483_472 := n16_; clear n0_ n1_ n2_ n3_ n4_ n5_ n6_ n7_ n8_ n9_ n10_ n11_ n12_ n13_ n14_ n15_ n16_; clear hb hbox hg) | ((with_reducible refine gate_dst (N := 11) rfl ?_); refine box_event ?hg (N := 11) ?hd (cs := #[.int .i64 0, .slice none 0 0, .slice none 0 0]) (t := 75) ?hr ?_; (case hd => rfl); (case hg => rfl); (case hr => first | (go_simp; done) | (go_simp; rfl)); intro gb484 hg w26 hbox hb; have n0_ := zA (Kd.R_below (by (with_reducible repeat first | apply zQ | apply zR | apply zS); exact HO466.out) hb); have n1_ := zA (Kd.R_below (by (with_reducible repeat first | apply zQ | apply zR | apply zS); exact HO469.out) hb); have n2_ := zA (Kd.R_below (by (with_reducible repeat first | apply zQ | apply zR | apply zS); exact HO478.out) hb); have n3_ := zA (Kd.R_below (by (with_reducible repeat first | apply zQ | apply zR | apply zS); exact HO481.out) hb); have n4_ := zA (yE (g := gb460) (o := .cells #[.string t100, .int .i64 t458] 71 (0, 0)) (by (with_reducible repeat (first | refine zL ?_ _ | refine zN ?_ | refine zM ?_ _)); exact BK460.out) hb); have n5_ := zA (yE (g := gb471) (o := .cells #[.string t461, .int .i64 t462] 71 (0, 0)) (by (with_reducible repeat (first | refine zL ?_ _ | refine zN ?_ | refine zM ?_ _)); exact BK471.out) hb); have n6_ := zA (yE (g := gb472) (o := .cells #[.int .i64 t463, .slice Ao21 t464.length co21, .slice Ao22 t467.length co22] 75 (0, 0)) (by (with_reducible repeat (first | refine zL ?_ _ | refine zN ?_ | refine zM ?_ _)); exact BK472.out) hb); have n7_ := zA (yE (g := gb483) (o := .cells #[.string (⟨#[]⟩ : ByteArray), .int .i64 0] 71 (0, 0)) (by (with_reducible repeat (first | refine zL ?_ _ | refine zN ?_ | refine zM ?_ _)); exact BK483.out) hb); have n8_ := zA (zAD (by repeat (first | (with_reducible first | exact HB.out | apply zH | apply zF | apply zG | refine zI ?_ GE460.out | refine zI ?_ GE471.out | refine zI ?_ GE472.out | refine zI ?_ GE483.out) | exact HB.out)) hb); have n9_ := zA (hbox); have n10_ := zA ((by rw [hg]; exact (zAE (by repeat (first | (with_reducible first | exact HB.out | apply zH | apply zF | apply zG | refine zI ?_ GE460.out | refine zI ?_ GE471.out | refine zI ?_ GE472.out | refine zI ?_ GE483.out) | exact HB.out))) : w.heap.size ≤ gb484)); have n11_ := zA ((by rw [hg]; exact (zAE (by repeat (first | (with_reducible first | exact HB.out | apply zH | apply zF | apply zG | refine zI ?_ GE460.out | refine zI ?_ GE471.out | refine zI ?_ GE472.out | refine zI ?_ GE483.out) | exact HB.out))) : w.heap.size ≤ gb484)); have n12_ := zA ((by rw [hg]; exact zK (blk_lt (g := gb460) (o := .cells #[.string t100, .int .i64 t458] 71 (0, 0)) (by (with_reducible repeat (first | refine zL ?_ _ | refine zN ?_ | refine zM ?_ _)); exact BK460.out)) : gb460 ≠ gb484)); have n13_ := zA ((by rw [hg]; exact Nat.ne_of_gt (blk_lt (g := gb460) (o := .cells #[.string t100, .int .i64 t458] 71 (0, 0)) (by (with_reducible repeat (first | refine zL ?_ _ | refine zN ?_ | refine zM ?_ _)); exact BK460.out)) : gb484 ≠ gb460)); have n14_ := zA ((by rw [hg]; exact zK (blk_lt (g := gb471) (o := .cells #[.string t461, .int .i64 t462] 71 (0, 0)) (by (with_reducible repeat (first | refine zL ?_ _ | refine zN ?_ | refine zM ?_ _)); exact BK471.out)) : gb471 ≠ gb484)); have n15_ := zA ((by rw [hg]; exact Nat.ne_of_gt (blk_lt (g := gb471) (o := .cells #[.string t461, .int .i64 t462] 71 (0, 0)) (by (with_reducible repeat (first | refine zL ?_ _ | refine zN ?_ | refine zM ?_ _)); exact BK471.out)) : gb484 ≠ gb471)); have n16_ := zA ((by rw [hg]; exact zK (blk_lt (g := gb472) (o := .cells #[.int .i64 t463, .slice Ao21 t464.length co21, .slice Ao22 t467.length co22] 75 (0, 0)) (by (with_reducible repeat (first | refine zL ?_ _ | refine zN ?_ | refine zM ?_ _)); exact BK472.out)) : gb472 ≠ gb484)); have n17_ := zA ((by rw [hg]; exact Nat.ne_of_gt (blk_lt (g := gb472) (o := .cells #[.int .i64 t463, .slice Ao21 t464.length co21, .slice Ao22 t467.length co22] 75 (0, 0)) (by (with_reducible repeat (first | refine zL ?_ _ | refine zN ?_ | refine zM ?_ _)); exact BK472.out)) : gb484 ≠ gb472)); have n18_ := zA ((by rw [hg]; exact zK (blk_lt (g := gb483) (o := .cells #[.string (⟨#[]⟩ : ByteArray), .int .i64 0] 71 (0, 0)) (by (with_reducible repeat (first | refine zL ?_ _ | refine zN ?_ | refine zM ?_ _)); exact BK483.out)) : gb483 ≠ gb484)); have n19_ := zA ((by rw [hg]; exact Nat.ne_of_gt (blk_lt (g := gb483) (o := .cells #[.string (⟨#[]⟩ : ByteArray), .int .i64 0] 71 (0, 0)) (by (with_reducible repeat (first | refine zL ?_ _ | refine zN ?_ | refine zM ?_ _)); exact BK483.out)) : gb484 ≠ gb483)); clear HO466; clear HO469; clear HO478; clear HO481; clear BK460; clear BK471; clear BK472; clear BK483; clear HB; have HO466 := n0_; have HO469 := n1_; have HO478 := n2_; have HO481 := n3_; have BK460 := n4_; have BK471 := n5_; have BK472 := n6_; have BK483 := n7_; have HB := n8_; have BK484 := n9_; have GW484 := n10_; have GE484 := n11_; have NB460_484 := n12_; have NB484_460 := n13_; have NB471_484 := n14_; have NB484_471 := n15_; have NB472_484 := n16_; have NB484_472 := n17_; have NB483_484 := n18_; have NB484_483 := n19_; clear n0_ n1_ n2_ n3_ n4_ n5_ n6_ n7_ n8_ n9_ n10_ n11_ n12_ n13_ n14_ n15_ n16_ n17_ n18_ n19_; clear hb hbox hg; have hnb27 := NB483_460.out; have hnc27 := NB460_483.out; have hnb28 := NB483_471.out; have hnc28 := NB471_483.out; have hnb29 := NB483_472.out; have hnc29 := NB472_483.out; have hnb30 := NB483_484.out; have hnc30 := NB484_483.out; have hcz31_0 := yL BK483.out 0 (.string (⟨#[]⟩ : ByteArray)) rfl; have hcz31_1 := yL BK483.out 1 (.int .i64 0) rfl; have hfz31_0 := zO BK483.out 0; have hfz31_1 := zO BK483.out 1; have hnb32 := NB484_460.out; have hnc32 := NB460_484.out; have hnb33 := NB484_471.out; have hnc33 := NB471_484.out; have hnb34 := NB484_472.out; have hnc34 := NB472_484.out; have hcz35_0 := yL BK484.out 0 (.int .i64 0) rfl; have hcz35_1 := yL BK484.out 1 (.slice none 0 0) rfl; have hcz35_2 := yL BK484.out 2 (.slice none 0 0) rfl; have hfz35_0 := zO BK484.out 0; have hfz35_1 := zO BK484.out 1; have hfz35_2 := zO BK484.out 2; obtain ⟨Ao36, co36, eo36⟩ := Kd.R_slice HO478.out; subst eo36; obtain ⟨Ao37, co37, eo37⟩ := Kd.R_slice HO481.out; subst eo37; have hcz38_0 := yL BK460.out 0 (.string t100) rfl; have hcz38_1 := yL BK460.out 1 (.int .i64 t458) rfl; have hfz38_0 := zO BK460.out 0; have hfz38_1 := zO BK460.out 1) | ((with_reducible refine yB (f := 50) rfl ?_); refine goesL_ (some 57) rfl rfl Try.func50 (by kernel_rfl) rfl #[.agg #[.string t100, .int .i64 t458]] rfl (by (try simp only [zAA, zAB, zAC]); first | done | rfl) ?_; (with_reducible refine (impl_LeftIn.calls t100 t458 t485 t486 _ A7.out).mono ?_); rintro e w39 ⟨rfl, hb⟩; refine ⟨_, rfl, ?_⟩; have n0_ := zA (Kd.R_below (by (with_reducible repeat first | apply zQ | apply zR | apply zS); exact (yC (yC (Kd.R_far (p := ⟨gb484, 2, none⟩) (Kd.R_far (p := ⟨gb484, 1, none⟩) (Kd.R_far (p := ⟨gb484, 0, none⟩) (Kd.R_far (p := ⟨gb483, 1, none⟩) (Kd.R_far (p := ⟨gb483, 0, none⟩) (Kd.R_types (Kd.R_types HO466.out BK483.out (by decide)) BK484.out (by decide)) (fun _ hk => hk.1.2) (.string t473)) (fun _ hk => hk.1.2) (.int .i64 t474)) (fun _ hk => hk.2) (.int .i64 t475)) (fun _ hk => hk.2) (.slice Ao36 t476.length co36)) (fun _ hk => hk.2) (.slice Ao37 t479.length co37)) (fun _ h_ => h_.1)) (fun _ h_ => h_.1))) hb); have n1_ := zA (Kd.R_below (by (with_reducible repeat first | apply zQ | apply zR | apply zS); exact (yC (yC (Kd.R_far (p := ⟨gb484, 2, none⟩) (Kd.R_far (p := ⟨gb484, 1, none⟩) (Kd.R_far (p := ⟨gb484, 0, none⟩) (Kd.R_far (p := ⟨gb483, 1, none⟩) (Kd.R_far (p := ⟨gb483, 0, none⟩) (Kd.R_types (Kd.R_types HO469.out BK483.out (by decide)) BK484.out (by decide)) (fun _ hk => hk.1.2) (.string t473)) (fun _ hk => hk.1.2) (.int .i64 t474)) (fun _ hk => hk.2) (.int .i64 t475)) (fun _ hk => hk.2) (.slice Ao36 t476.length co36)) (fun _ hk => hk.2) (.slice Ao37 t479.length co37)) (fun _ h_ => h_.1)) (fun _ h_ => h_.1))) hb); have n2_ := zA (Kd.R_below (by (with_reducible repeat first | apply zQ | apply zR | apply zS); exact (yC (yC (Kd.R_far (p := ⟨gb484, 2, none⟩) (Kd.R_far (p := ⟨gb484, 1, none⟩) (Kd.R_far (p := ⟨gb484, 0, none⟩) (Kd.R_far (p := ⟨gb483, 1, none⟩) (Kd.R_far (p := ⟨gb483, 0, none⟩) (Kd.R_types (Kd.R_types HO478.out BK483.out (by decide)) BK484.out (by decide)) (fun _ hk => hk.1.2) (.string t473)) (fun _ hk => hk.1.2) (.int .i64 t474)) (fun _ hk => hk.2) (.int .i64 t475)) (fun _ hk => hk.2) (.slice Ao36 t476.length co36)) (fun _ hk => hk.2) (.slice Ao37 t479.length co37)) (fun _ h_ => h_.1)) (fun _ h_ => h_.1))) hb); have n3_ := zA (Kd.R_below (by (with_reducible repeat first | apply zQ | apply zR | apply zS); exact (yC (yC (Kd.R_far (p := ⟨gb484, 2, none⟩) (Kd.R_far (p := ⟨gb484, 1, none⟩) (Kd.R_far (p := ⟨gb484, 0, none⟩) (Kd.R_far (p := ⟨gb483, 1, none⟩) (Kd.R_far (p := ⟨gb483, 0, none⟩) (Kd.R_types (Kd.R_types HO481.out BK483.out (by decide)) BK484.out (by decide)) (fun _ hk => hk.1.2) (.string t473)) (fun _ hk => hk.1.2) (.int .i64 t474)) (fun _ hk => hk.2) (.int .i64 t475)) (fun _ hk => hk.2) (.slice Ao36 t476.length co36)) (fun _ hk => hk.2) (.slice Ao37 t479.length co37)) (fun _ h_ => h_.1)) (fun _ h_ => h_.1))) hb); have n4_ := zA (yE (g := gb460) (o := .cells #[.string t100, .int .i64 t458] 71 (0, 0)) (by (with_reducible repeat (first | refine zL ?_ _ | refine zN ?_ | refine zM ?_ _)); refine blk_far ?_ NB460_484.out _; (with_reducible repeat (first | refine zL ?_ _ | refine zN ?_ | refine zM ?_ _)); refine blk_far ?_ NB460_484.out _; (with_reducible repeat (first | refine zL ?_ _ | refine zN ?_ | refine zM ?_ _)); refine blk_far ?_ NB460_484.out _; (with_reducible repeat (first | refine zL ?_ _ | refine zN ?_ | refine zM ?_ _)); refine blk_far ?_ NB460_483.out _; (with_reducible repeat (first | refine zL ?_ _ | refine zN ?_ | refine zM ?_ _)); refine blk_far ?_ NB460_483.out _; (with_reducible repeat (first | refine zL ?_ _ | refine zN ?_ | refine zM ?_ _)); exact BK460.out) hb); have n5_ := zA (yE (g := gb471) (o := .cells #[.string t461, .int .i64 t462] 71 (0, 0)) (by (with_reducible repeat (first | refine zL ?_ _ | refine zN ?_ | refine zM ?_ _)); refine blk_far ?_ NB471_484.out _; (with_reducible repeat (first | refine zL ?_ _ | refine zN ?_ | refine zM ?_ _)); refine blk_far ?_ NB471_484.out _; (with_reducible repeat (first | refine zL ?_ _ | refine zN ?_ | refine zM ?_ _)); refine blk_far ?_ NB471_484.out _; (with_reducible repeat (first | refine zL ?_ _ | refine zN ?_ | refine zM ?_ _)); refine blk_far ?_ NB471_483.out _; (with_reducible repeat (first | refine zL ?_ _ | refine zN ?_ | refine zM ?_ _)); refine blk_far ?_ NB471_483.out _; (with_reducible repeat (first | refine zL ?_ _ | refine zN ?_ | refine zM ?_ _)); exact BK471.out) hb); have n6_ := zA (yE (g := gb472) (o := .cells #[.int .i64 t463, .slice Ao21 t464.length co21, .slice Ao22 t467.length co22] 75 (0, 0)) (by (with_reducible repeat (first | refine zL ?_ _ | refine zN ?_ | refine zM ?_ _)); refine blk_far ?_ NB472_484.out _; (with_reducible repeat (first | refine zL ?_ _ | refine zN ?_ | refine zM ?_ _)); refine blk_far ?_ NB472_484.out _; (with_reducible repeat (first | refine zL ?_ _ | refine zN ?_ | refine zM ?_ _)); refine blk_far ?_ NB472_484.out _; (with_reducible repeat (first | refine zL ?_ _ | refine zN ?_ | refine zM ?_ _)); refine blk_far ?_ NB472_483.out _; (with_reducible repeat (first | refine zL ?_ _ | refine zN ?_ | refine zM ?_ _)); refine blk_far ?_ NB472_483.out _; (with_reducible repeat (first | refine zL ?_ _ | refine zN ?_ | refine zM ?_ _)); exact BK472.out) hb); have n7_ := zA (yE (g := gb483) (o := .cells #[.string t473, .int .i64 t474] 71 (0, 0)) (by (with_reducible repeat (first | refine zL ?_ _ | refine zN ?_ | refine zM ?_ _)); refine blk_far ?_ NB483_484.out _; (with_reducible repeat (first | refine zL ?_ _ | refine zN ?_ | refine zM ?_ _)); refine blk_far ?_ NB483_484.out _; (with_reducible repeat (first | refine zL ?_ _ | refine zN ?_ | refine zM ?_ _)); refine blk_far ?_ NB483_484.out _; (with_reducible repeat (first | refine zL ?_ _ | refine zN ?_ | refine zM ?_ _)); refine blk_put (cs := #[.string t473, .int .i64 0]) ?_ 1 _ rfl; (with_reducible repeat (first | refine zL ?_ _ | refine zN ?_ | refine zM ?_ _)); refine blk_put (cs := #[.string (⟨#[]⟩ : ByteArray), .int .i64 0]) ?_ 0 _ rfl; (with_reducible repeat (first | refine zL ?_ _ | refine zN ?_ | refine zM ?_ _)); exact BK483.out) hb); have n8_ := zA (yE (g := gb484) (o := .cells #[.int .i64 t475, .slice Ao36 t476.length co36, .slice Ao37 t479.length co37] 75 (0, 0)) (by (with_reducible repeat (first | refine zL ?_ _ | refine zN ?_ | refine zM ?_ _)); refine blk_put (cs := #[.int .i64 t475, .slice Ao36 t476.length co36, .slice none 0 0]) ?_ 2 _ rfl; (with_reducible repeat (first | refine zL ?_ _ | refine zN ?_ | refine zM ?_ _)); refine blk_put (cs := #[.int .i64 t475, .slice none 0 0, .slice none 0 0]) ?_ 1 _ rfl; (with_reducible repeat (first | refine zL ?_ _ | refine zN ?_ | refine zM ?_ _)); refine blk_put (cs := #[.int .i64 0, .slice none 0 0, .slice none 0 0]) ?_ 0 _ rfl; (with_reducible repeat (first | refine zL ?_ _ | refine zN ?_ | refine zM ?_ _)); refine blk_far ?_ NB484_483.out _; (with_reducible repeat (first | refine zL ?_ _ | refine zN ?_ | refine zM ?_ _)); refine blk_far ?_ NB484_483.out _; (with_reducible repeat (first | refine zL ?_ _ | refine zN ?_ | refine zM ?_ _)); exact BK484.out) hb); have n9_ := zA (zAD (by repeat (first | (with_reducible first | exact HB.out | apply zH | apply zF | apply zG | refine zI ?_ GE460.out | refine zI ?_ GE471.out | refine zI ?_ GE472.out | refine zI ?_ GE483.out | refine zI ?_ GE484.out) | exact HB.out)) hb); clear HO466; clear HO469; clear HO478; clear HO481; clear BK460; clear BK471; clear BK472; clear BK483; clear BK484; clear HB; have HO466 := n0_; have HO469 := n1_; have HO478 := n2_; have HO481 := n3_; have BK460 := n4_; have BK471 := n5_; have BK472 := n6_; have BK483 := n7_; have BK484 := n8_; have HB := n9_; clear n0_ n1_ n2_ n3_ n4_ n5_ n6_ n7_ n8_ n9_; (try clear hb); (try clear hk); have hcz40_0 := yL BK460.out 0 (.string t100) rfl; have hcz40_1 := yL BK460.out 1 (.int .i64 t458) rfl; have hfz40_0 := zO BK460.out 0; have hfz40_1 := zO BK460.out 1) | ((with_reducible refine yB (f := 51) rfl ?_); refine goesL_ (some 62) rfl rfl Try.func51 (by kernel_rfl) rfl #[.agg #[.string t100, .int .i64 t458]] rfl (by (try simp only [zAA, zAB, zAC]); first | done | rfl) ?_; (with_reducible refine (spec_LeftIn.calls t100 t458 t487 t488 _ A8.out).mono ?_); rintro e w41 ⟨rfl, hb⟩; refine ⟨_, rfl, ?_⟩; have n0_ := zA (Kd.R_below (by (with_reducible repeat first | apply zQ | apply zR | apply zS); exact HO466.out) hb); have n1_ := zA (Kd.R_below (by (with_reducible repeat first | apply zQ | apply zR | apply zS); exact HO469.out) hb); have n2_ := zA (Kd.R_below (by (with_reducible repeat first | apply zQ | apply zR | apply zS); exact HO478.out) hb); have n3_ := zA (Kd.R_below (by (with_reducible repeat first | apply zQ | apply zR | apply zS); exact HO481.out) hb); have n4_ := zA (yE (g := gb460) (o := .cells #[.string t100, .int .i64 t458] 71 (0, 0)) (by (with_reducible repeat (first | refine zL ?_ _ | refine zN ?_ | refine zM ?_ _)); exact BK460.out) hb); have n5_ := zA (yE (g := gb471) (o := .cells #[.string t461, .int .i64 t462] 71 (0, 0)) (by (with_reducible repeat (first | refine zL ?_ _ | refine zN ?_ | refine zM ?_ _)); exact BK471.out) hb); have n6_ := zA (yE (g := gb472) (o := .cells #[.int .i64 t463, .slice Ao21 t464.length co21, .slice Ao22 t467.length co22] 75 (0, 0)) (by (with_reducible repeat (first | refine zL ?_ _ | refine zN ?_ | refine zM ?_ _)); exact BK472.out) hb); have n7_ := zA (yE (g := gb483) (o := .cells #[.string t473, .int .i64 t474] 71 (0, 0)) (by (with_reducible repeat (first | refine zL ?_ _ | refine zN ?_ | refine zM ?_ _)); exact BK483.out) hb); have n8_ := zA (yE (g := gb484) (o := .cells #[.int .i64 t475, .slice Ao36 t476.length co36, .slice Ao37 t479.length co37] 75 (0, 0)) (by (with_reducible repeat (first | refine zL ?_ _ | refine zN ?_ | refine zM ?_ _)); exact BK484.out) hb); have n9_ := zA (zAD (by repeat (first | (with_reducible first | exact HB.out | apply zH | apply zF | apply zG | refine zI ?_ GE460.out | refine zI ?_ GE471.out | refine zI ?_ GE472.out | refine zI ?_ GE483.out | refine zI ?_ GE484.out) | exact HB.out)) hb); clear HO466; clear HO469; clear HO478; clear HO481; clear BK460; clear BK471; clear BK472; clear BK483; clear BK484; clear HB; have HO466 := n0_; have HO469 := n1_; have HO478 := n2_; have HO481 := n3_; have BK460 := n4_; have BK471 := n5_; have BK472 := n6_; have BK483 := n7_; have BK484 := n8_; have HB := n9_; clear n0_ n1_ n2_ n3_ n4_ n5_ n6_ n7_ n8_ n9_; (try clear hb)))
  (try simp only [Act.put, zC, zD, zE]); go_cut [94] (fun v94 wc => ∃ (kq : Nat) (x94_8 : Bool), v94 = .bool x94_8 ∧ Aside0 (laws_FnSeals.j0 kq l1 t459 t470 t485 t486 x94_8 t100 t458 t461 t462 t463 t464 t467 = some r) ∧ Aside0 (kq ≤ k) ∧ Aside0 (Kd.R Kd.string 9 wc w.heap.size (fun k_ => some k_ ≠ ((.slice Ao22 t467.length co22) : Value).ownBlock ∧ some k_ ≠ ((.slice Ao36 t476.length co36) : Value).ownBlock ∧ some k_ ≠ ((.slice Ao37 t479.length co37) : Value).ownBlock) (.slice Ao21 t464.length co21) t464) ∧ Aside0 (Kd.R Kd.string 9 wc w.heap.size (fun k_ => some k_ ≠ ((.slice Ao21 t464.length co21) : Value).ownBlock ∧ some k_ ≠ ((.slice Ao36 t476.length co36) : Value).ownBlock ∧ some k_ ≠ ((.slice Ao37 t479.length co37) : Value).ownBlock) (.slice Ao22 t467.length co22) t467) ∧ Aside0 (Kd.R Kd.string 9 wc w.heap.size (fun k_ => some k_ ≠ ((.slice Ao21 t464.length co21) : Value).ownBlock ∧ some k_ ≠ ((.slice Ao22 t467.length co22) : Value).ownBlock ∧ some k_ ≠ ((.slice Ao37 t479.length co37) : Value).ownBlock) (.slice Ao36 t476.length co36) t476) ∧ Aside0 (Kd.R Kd.string 9 wc w.heap.size (fun k_ => some k_ ≠ ((.slice Ao21 t464.length co21) : Value).ownBlock ∧ some k_ ≠ ((.slice Ao22 t467.length co22) : Value).ownBlock ∧ some k_ ≠ ((.slice Ao36 t476.length co36) : Value).ownBlock) (.slice Ao37 t479.length co37) t479) ∧ Aside0 (wc.heap[gb460]? = some (.cells #[.string t100, .int .i64 t458] 71 (0, 0))) ∧ Aside0 (wc.heap[gb471]? = some (.cells #[.string t461, .int .i64 t462] 71 (0, 0))) ∧ Aside0 (wc.heap[gb472]? = some (.cells #[.int .i64 t463, (.slice Ao21 t464.length co21), (.slice Ao22 t467.length co22)] 75 (0, 0))) ∧ Aside0 (wc.heap[gb483]? = some (.cells #[.string t473, .int .i64 t474] 71 (0, 0))) ∧ Aside0 (wc.heap[gb484]? = some (.cells #[.int .i64 t475, (.slice Ao36 t476.length co36), (.slice Ao37 t479.length co37)] 75 (0, 0))) ∧ Aside0 (Below w.heap.size w wc))
  case first =>
   have H := HC9.out; clear HC9
   by_cases c42 : (t470 != t482) = true
   ·rw [if_pos c42] at H
    have c42b0 : (t470 != t482) = true := c42; (try (have c42b1 : decide (t470 = t482) = false := by simpa using c42)); (try (have c42b2 : (t470 == t482) = false := by simpa using c42)); (try (have c42b3 : ¬ (t470 = t482) := by simpa using c42)); clear c42; (first | rw [c42b0] | (simp only [i64_w, i32_w]; rw [c42b0]) | skip)
    as_aux_lemma =>
     exfalso; revert H; generalize k = q_; intro H; cases q_ with
     | zero => exact absurd H (by simp [laws_FnSeals.j0])
     | succ q_ => simp only [laws_FnSeals.j0] at H; exact absurd ((yM (show some false = some _ from H)).trans hr_.out) (by decide)
   ·rw [if_neg c42] at H
    have c42b0 : (t470 != t482) = false := by simpa using c42
    (try (have c42b1 : decide (t470 = t482) = true := by simpa using c42)); (try (have c42b2 : (t470 == t482) = true := by simpa using c42)); clear c42; (first | rw [c42b0] | (simp only [i64_w, i32_w]; rw [c42b0]) | skip)
    by_cases c43 : (!(t461.toList == t473.toList) || (!(t462 == t474))) = true
    ·rw [if_pos c43] at H
     have c43b0 : (!(t461.toList == t473.toList) || (!(t462 == t474))) = true := c43; clear c43
     as_aux_lemma =>
      exfalso; revert H; generalize k = q_; intro H; cases q_ with
      | zero => exact absurd H (by simp [laws_FnSeals.j0])
      | succ q_ => simp only [laws_FnSeals.j0] at H; exact absurd ((yM (show some false = some _ from H)).trans hr_.out) (by decide)
    ·rw [if_neg c43] at H
     have c43b0 : (!(t461.toList == t473.toList) || (!(t462 == t474))) = false := by simpa using c43
     clear c43; replace H := zAF H; obtain ⟨t489, A440, H⟩ := H; replace H : (if t489 = true then (if (t486 != t488) = true then (laws_FnSeals.j0 k l1 t459 t470 t485 t486 true t100 t458 t461 t462 t463 t464 t467) else (if t485 = t487 then ((impl_GoodSigner.f t100 t458).bind fun t490 => (laws_FnSeals.j0 k l1 t459 t470 t485 t486 (t490 != t488) t100 t458 t461 t462 t463 t464 t467)) else (laws_FnSeals.j0 k l1 t459 t470 t485 t486 true t100 t458 t461 t462 t463 t464 t467))) else (laws_FnSeals.j0 k l1 t459 t470 t485 t486 true t100 t458 t461 t462 t463 t464 t467)) = some r := H; have A44 := zA A440; clear A440
     by_cases c45 : t489 = true
     ·subst c45
      have H1 : (if (t486 != t488) = true then (laws_FnSeals.j0 k l1 t459 t470 t485 t486 true t100 t458 t461 t462 t463 t464 t467) else (if t485 = t487 then ((impl_GoodSigner.f t100 t458).bind fun t490 => (laws_FnSeals.j0 k l1 t459 t470 t485 t486 (t490 != t488) t100 t458 t461 t462 t463 t464 t467)) else (laws_FnSeals.j0 k l1 t459 t470 t485 t486 true t100 t458 t461 t462 t463 t464 t467))) = some r := by rw [if_pos rfl] at H; exact H
      clear H; have H := H1; clear H1
      by_cases c46 : (t486 != t488) = true
      ·rw [if_pos c46] at H
       have c46b0 : (t486 != t488) = true := c46; (try (have c46b1 : decide (t486 = t488) = false := by simpa using c46)); (try (have c46b2 : (t486 == t488) = false := by simpa using c46)); (try (have c46b3 : ¬ (t486 = t488) := by simpa using c46)); clear c46
       as_aux_lemma =>
        exfalso; revert H; generalize k = q_; intro H; cases q_ with
        | zero => exact absurd H (by simp [laws_FnSeals.j0])
        | succ q_ => simp only [laws_FnSeals.j0] at H; exact absurd ((yM (show some false = some _ from H)).trans hr_.out) (by decide)
      ·rw [if_neg c46] at H
       have c46b0 : (t486 != t488) = false := by simpa using c46
       (try (have c46b1 : decide (t486 = t488) = true := by simpa using c46)); (try (have c46b2 : (t486 == t488) = true := by simpa using c46)); clear c46
       by_cases c47 : t485 = t487
       ·rw [if_pos c47] at H
        have c47b0 : (t485 == t487) = true := beq_iff_eq.mpr c47; have c47b1 : (t485 != t487) = false := bne_eq_false_iff_eq.mpr c47; clear c47; replace H := zAF H; obtain ⟨t490, A480, H⟩ := H; replace H : (laws_FnSeals.j0 k l1 t459 t470 t485 t486 (t490 != t488) t100 t458 t461 t462 t463 t464 t467) = some r := H; have A48 := zA A480; clear A480
        as_aux_lemma =>
         have H' := zA H; clear H; have hnb49 := NB471_460.out; have hnc49 := NB460_471.out; have hnb50 := NB471_472.out; have hnc50 := NB472_471.out; have hnb51 := NB471_483.out; have hnc51 := NB483_471.out; have hnb52 := NB471_484.out; have hnc52 := NB484_471.out; have hcz53_0 := yL BK471.out 0 (.string t461) rfl; have hcz53_1 := yL BK471.out 1 (.int .i64 t462) rfl; have hfz53_0 := zO BK471.out 0; have hfz53_1 := zO BK471.out 1; have hnb54 := NB483_460.out; have hnc54 := NB460_483.out; have hnb55 := NB483_472.out; have hnc55 := NB472_483.out; have hnb56 := NB483_484.out; have hnc56 := NB484_483.out; have hcz57_0 := yL BK483.out 0 (.string t473) rfl; have hcz57_1 := yL BK483.out 1 (.int .i64 t474) rfl; have hfz57_0 := zO BK483.out 0; have hfz57_1 := zO BK483.out 1; have hnb58 := NB472_460.out; have hnc58 := NB460_472.out; have hnb59 := NB472_484.out; have hnc59 := NB484_472.out; have hcz60_0 := yL BK472.out 0 (.int .i64 t463) rfl; have hcz60_1 := yL BK472.out 1 (.slice Ao21 t464.length co21) rfl; have hcz60_2 := yL BK472.out 2 (.slice Ao22 t467.length co22) rfl; have hfz60_0 := zO BK472.out 0; have hfz60_1 := zO BK472.out 1; have hfz60_2 := zO BK472.out 2; have hnb61 := NB484_460.out; have hnc61 := NB460_484.out; have hcz62_0 := yL BK484.out 0 (.int .i64 t475) rfl; have hcz62_1 := yL BK484.out 1 (.slice Ao36 t476.length co36) rfl; have hcz62_2 := yL BK484.out 2 (.slice Ao37 t479.length co37) rfl; have hfz62_0 := zO BK484.out 0; have hfz62_1 := zO BK484.out 1; have hfz62_2 := zO BK484.out 2; go_wp2_with (first | (go_at_call 52; (with_reducible refine (laws_sameSeal.calls k t463 _ _ t464 _ _ t467 t475 _ _ t476 _ _ t479 true _ ?side1 ?side2 ?side3 ?side4 ?side5 ?side6 ?side7 ?side8 A44.out).mono ?_); (case side1 => repeat (first | exact (yD HO466.out).2.2 | (with_reducible first | refine zT ?_ _ | refine zU ?_ _ | refine zV ?_))); (case side2 => exact (yD HO466.out).2.1); (case side3 => repeat (first | exact (yD HO469.out).2.2 | (with_reducible first | refine zT ?_ _ | refine zU ?_ _ | refine zV ?_))); (case side4 => exact (yD HO469.out).2.1); (case side5 => repeat (first | exact (yD HO478.out).2.2 | (with_reducible first | refine zT ?_ _ | refine zU ?_ _ | refine zV ?_))); (case side6 => exact (yD HO478.out).2.1); (case side7 => repeat (first | exact (yD HO481.out).2.2 | (with_reducible first | refine zT ?_ _ | refine zU ?_ _ | refine zV ?_))); (case side8 => exact (yD HO481.out).2.1); rintro e w63 ⟨rfl, hb⟩; have n0_ := zA (Kd.R_below (by (with_reducible repeat first | apply zQ | apply zR | apply zS); exact HO466.out) hb); have n1_ := zA (Kd.R_below (by (with_reducible repeat first | apply zQ | apply zR | apply zS); exact HO469.out) hb); have n2_ := zA (Kd.R_below (by (with_reducible repeat first | apply zQ | apply zR | apply zS); exact HO478.out) hb); have n3_ := zA (Kd.R_below (by (with_reducible repeat first | apply zQ | apply zR | apply zS); exact HO481.out) hb); have n4_ := zA (yE (g := gb460) (o := .cells #[.string t100, .int .i64 t458] 71 (0, 0)) (by (with_reducible repeat (first | refine zL ?_ _ | refine zN ?_ | refine zM ?_ _)); exact BK460.out) hb); have n5_ := zA (yE (g := gb471) (o := .cells #[.string t461, .int .i64 t462] 71 (0, 0)) (by (with_reducible repeat (first | refine zL ?_ _ | refine zN ?_ | refine zM ?_ _)); exact BK471.out) hb); have n6_ := zA (yE (g := gb472) (o := .cells #[.int .i64 t463, .slice Ao21 t464.length co21, .slice Ao22 t467.length co22] 75 (0, 0)) (by (with_reducible repeat (first | refine zL ?_ _ | refine zN ?_ | refine zM ?_ _)); exact BK472.out) hb); have n7_ := zA (yE (g := gb483) (o := .cells #[.string t473, .int .i64 t474] 71 (0, 0)) (by (with_reducible repeat (first | refine zL ?_ _ | refine zN ?_ | refine zM ?_ _)); exact BK483.out) hb); have n8_ := zA (yE (g := gb484) (o := .cells #[.int .i64 t475, .slice Ao36 t476.length co36, .slice Ao37 t479.length co37] 75 (0, 0)) (by (with_reducible repeat (first | refine zL ?_ _ | refine zN ?_ | refine zM ?_ _)); exact BK484.out) hb); have n9_ := zA (zAD (by repeat (first | (with_reducible first | exact HB.out | apply zH | apply zF | apply zG | refine zI ?_ GE460.out | refine zI ?_ GE471.out | refine zI ?_ GE472.out | refine zI ?_ GE483.out | refine zI ?_ GE484.out) | exact HB.out)) hb); clear HO466; clear HO469; clear HO478; clear HO481; clear BK460; clear BK471; clear BK472; clear BK483; clear BK484; clear HB; have HO466 := n0_; have HO469 := n1_; have HO478 := n2_; have HO481 := n3_; have BK460 := n4_; have BK471 := n5_; have BK472 := n6_; have BK483 := n7_; have BK484 := n8_; have HB := n9_; clear n0_ n1_ n2_ n3_ n4_ n5_ n6_ n7_ n8_ n9_; (try clear hb); have hcz64_0 := yL BK460.out 0 (.string t100) rfl; have hcz64_1 := yL BK460.out 1 (.int .i64 t458) rfl; have hfz64_0 := zO BK460.out 0; have hfz64_1 := zO BK460.out 1) | (go_at_call 53; (with_reducible refine (impl_GoodSigner.calls t100 t458 t490 _ A48.out).mono ?_); rintro e w65 ⟨rfl, hb⟩; have n0_ := zA (Kd.R_below (by (with_reducible repeat first | apply zQ | apply zR | apply zS); exact HO466.out) hb); have n1_ := zA (Kd.R_below (by (with_reducible repeat first | apply zQ | apply zR | apply zS); exact HO469.out) hb); have n2_ := zA (Kd.R_below (by (with_reducible repeat first | apply zQ | apply zR | apply zS); exact HO478.out) hb); have n3_ := zA (Kd.R_below (by (with_reducible repeat first | apply zQ | apply zR | apply zS); exact HO481.out) hb); have n4_ := zA (yE (g := gb460) (o := .cells #[.string t100, .int .i64 t458] 71 (0, 0)) (by (with_reducible repeat (first | refine zL ?_ _ | refine zN ?_ | refine zM ?_ _)); exact BK460.out) hb); have n5_ := zA (yE (g := gb471) (o := .cells #[.string t461, .int .i64 t462] 71 (0, 0)) (by (with_reducible repeat (first | refine zL ?_ _ | refine zN ?_ | refine zM ?_ _)); exact BK471.out) hb); have n6_ := zA (yE (g := gb472) (o := .cells #[.int .i64 t463, .slice Ao21 t464.length co21, .slice Ao22 t467.length co22] 75 (0, 0)) (by (with_reducible repeat (first | refine zL ?_ _ | refine zN ?_ | refine zM ?_ _)); exact BK472.out) hb); have n7_ := zA (yE (g := gb483) (o := .cells #[.string t473, .int .i64 t474] 71 (0, 0)) (by (with_reducible repeat (first | refine zL ?_ _ | refine zN ?_ | refine zM ?_ _)); exact BK483.out) hb); have n8_ := zA (yE (g := gb484) (o := .cells #[.int .i64 t475, .slice Ao36 t476.length co36, .slice Ao37 t479.length co37] 75 (0, 0)) (by (with_reducible repeat (first | refine zL ?_ _ | refine zN ?_ | refine zM ?_ _)); exact BK484.out) hb); have n9_ := zA (zAD (by repeat (first | (with_reducible first | exact HB.out | apply zH | apply zF | apply zG | refine zI ?_ GE460.out | refine zI ?_ GE471.out | refine zI ?_ GE472.out | refine zI ?_ GE483.out | refine zI ?_ GE484.out) | exact HB.out)) hb); clear HO466; clear HO469; clear HO478; clear HO481; clear BK460; clear BK471; clear BK472; clear BK483; clear BK484; clear HB; have HO466 := n0_; have HO469 := n1_; have HO478 := n2_; have HO481 := n3_; have BK460 := n4_; have BK471 := n5_; have BK472 := n6_; have BK483 := n7_; have BK484 := n8_; have HB := n9_; clear n0_ n1_ n2_ n3_ n4_ n5_ n6_ n7_ n8_ n9_; (try clear hb)))
         go_meet
         case rel => exact ⟨_, ((t490 != t488)), (by first | rfl | (simp; done) | (simp [*]; done) | (simp [bne]; done)), H', ⟨by first | omega | exact Nat.le_refl _⟩, ⟨by (with_reducible repeat first | apply zQ | apply zR | apply zS); exact yC HO466.out (fun _ hk => ⟨hk.1.1, ⟨hk.1.2, hk.2⟩⟩)⟩, ⟨by (with_reducible repeat first | apply zQ | apply zR | apply zS); exact yC HO469.out (fun _ hk => ⟨hk.1.1, ⟨hk.1.2, hk.2⟩⟩)⟩, ⟨by (with_reducible repeat first | apply zQ | apply zR | apply zS); exact yC HO478.out (fun _ hk => ⟨hk.1.2, ⟨hk.2, hk.1.1⟩⟩)⟩, ⟨by (with_reducible repeat first | apply zQ | apply zR | apply zS); exact yC HO481.out (fun _ hk => ⟨hk.1.2, ⟨hk.2, hk.1.1⟩⟩)⟩, ⟨by (with_reducible repeat (first | refine zL ?_ _ | refine zN ?_ | refine zM ?_ _)); exact BK460.out⟩, ⟨by (with_reducible repeat (first | refine zL ?_ _ | refine zN ?_ | refine zM ?_ _)); exact BK471.out⟩, ⟨by (with_reducible repeat (first | refine zL ?_ _ | refine zN ?_ | refine zM ?_ _)); exact BK472.out⟩, ⟨by (with_reducible repeat (first | refine zL ?_ _ | refine zN ?_ | refine zM ?_ _)); exact BK483.out⟩, ⟨by (with_reducible repeat (first | refine zL ?_ _ | refine zN ?_ | refine zM ?_ _)); exact BK484.out⟩, ⟨by repeat (first | (with_reducible first | exact HB.out | apply zH | apply zF | apply zG | refine zI ?_ GE460.out | refine zI ?_ GE471.out | refine zI ?_ GE472.out | refine zI ?_ GE483.out | refine zI ?_ GE484.out) | exact HB.out)⟩⟩
       ·rw [if_neg c47] at H
        have c47b0 : (t485 == t487) = false := beq_eq_false_iff_ne.mpr c47; have c47b1 : (t485 != t487) = true := bne_iff_ne.mpr c47
        as_aux_lemma =>
         exfalso; revert H; generalize k = q_; intro H; cases q_ with
         | zero => exact absurd H (by simp [laws_FnSeals.j0])
         | succ q_ => simp only [laws_FnSeals.j0] at H; exact absurd ((yM (show some false = some _ from H)).trans hr_.out) (by decide)
     ·replace c45 := yO c45
      subst c45; have H1 : (laws_FnSeals.j0 k l1 t459 t470 t485 t486 true t100 t458 t461 t462 t463 t464 t467) = some r := by rw [if_neg (show ¬ (false = true) by decide)] at H; exact H
      clear H; have H := H1; clear H1
      as_aux_lemma =>
       exfalso; revert H; generalize k = q_; intro H; cases q_ with
       | zero => exact absurd H (by simp [laws_FnSeals.j0])
       | succ q_ => simp only [laws_FnSeals.j0] at H; exact absurd ((yM (show some false = some _ from H)).trans hr_.out) (by decide)
  case rest =>
   clear HC9
   try clear c1
   try clear c2
   try clear p2
   try clear c3
   try clear c3b0
   try clear c4
   try clear c5
   try clear c6
   try clear p6
   try clear c16
   try clear c17
   try clear c19
   try clear c27
   try clear c28
   try clear c29
   try clear c30
   try clear c32
   try clear c33
   try clear c34
   try clear c42
   try clear c42b0
   try clear c42b1
   try clear c42b2
   try clear c43
   try clear c43b0
   try clear c45
   try clear c46
   try clear c46b0
   try clear c46b1
   try clear c46b2
   try clear c47
   try clear c47b0
   try clear c47b1
   try clear c48
   try clear c49
   try clear c50
   try clear c51
   try clear c52
   try clear c54
   try clear c55
   try clear c56
   try clear c58
   try clear c59
   try clear c61
   try clear p64
   try clear hcz12_0
   try clear hcz12_1
   try clear hcz18_0
   try clear hcz18_1
   try clear hcz20_0
   try clear hcz20_1
   try clear hcz20_2
   try clear hcz23_0
   try clear hcz23_1
   try clear hcz31_0
   try clear hcz31_1
   try clear hcz35_0
   try clear hcz35_1
   try clear hcz35_2
   try clear hcz38_0
   try clear hcz38_1
   try clear hcz40_0
   try clear hcz40_1
   try clear hcz53_0
   try clear hcz53_1
   try clear hcz57_0
   try clear hcz57_1
   try clear hcz60_0
   try clear hcz60_1
   try clear hcz60_2
   try clear hcz62_0
   try clear hcz62_1
   try clear hcz62_2
   try clear hcz64_0
   try clear hcz64_1
   try clear hfz12_0
   try clear hfz12_1
   try clear hfz18_0
   try clear hfz18_1
   try clear hfz20_0
   try clear hfz20_1
   try clear hfz20_2
   try clear hfz23_0
   try clear hfz23_1
   try clear hfz31_0
   try clear hfz31_1
   try clear hfz35_0
   try clear hfz35_1
   try clear hfz35_2
   try clear hfz38_0
   try clear hfz38_1
   try clear hfz40_0
   try clear hfz40_1
   try clear hfz53_0
   try clear hfz53_1
   try clear hfz57_0
   try clear hfz57_1
   try clear hfz60_0
   try clear hfz60_1
   try clear hfz60_2
   try clear hfz62_0
   try clear hfz62_1
   try clear hfz62_2
   try clear hfz64_0
   try clear hfz64_1
   obtain ⟨kq, x94_8, rfl, HA, HJ8, HO_473001, HO_473002, HO_485001, HO_485002, BK460, BK471, BK472, BK483, BK484, HB⟩ := hcut
   cases kq with
   | zero => exact absurd HA.out (by simp [laws_FnSeals.j0])
   | succ kj8 =>
    have H := HA.out; clear HA; simp only [laws_FnSeals.j0] at H
    by_cases c66 : x94_8 = true
    ·subst c66
     have H1 : (some false) = some r := by rw [if_pos rfl] at H; exact H
     clear H; have H := H1; clear H1
     as_aux_lemma =>
      exact absurd ((yM H).trans hr_.out) (by decide)
    ·replace c66 := yO c66
     subst c66; have H1 : (if t470 = true then ((impl_TopOf.f kj8 t100).bind fun bt491 => ((impl_CheckSeal.f kj8 bt491.1 t459 t463 t464 t467).bind fun bt493 => ((impl_LeftIn.f t461 t462).bind fun bt495 => (if bt491.2 = true then (if bt493.2 = true then (if bt493.1 = true then (if bt495.2 = true then (if bt495.1 = (wrap64 (t485 - 1)) then (if t463 = t458 then ((impl_GoodSigner.f t461 t462).bind fun t497 => (if t497 = true then (laws_FnSeals.j1 kj8 l1 t470 t485 t486) else (some false))) else (some false)) else (some false)) else (some false)) else (some false)) else (some false)) else (some false))))) else (laws_FnSeals.j1 kj8 l1 t470 t485 t486)) = some r := by rw [if_neg (show ¬ (false = true) by decide)] at H; exact H
     clear H; have H := H1; clear H1; have HC67 := zA H; clear H; go_upto_if 95 with (fail)
     go_cut [] (fun wc => ∃ (kq : Nat), Aside0 (laws_FnSeals.j1 kq l1 t470 t485 t486 = some r) ∧ Aside0 (kq ≤ kj8) ∧ Aside0 (Kd.R Kd.string 9 wc w.heap.size (fun k_ => some k_ ≠ ((.slice Ao22 t467.length co22) : Value).ownBlock ∧ some k_ ≠ ((.slice Ao36 t476.length co36) : Value).ownBlock ∧ some k_ ≠ ((.slice Ao37 t479.length co37) : Value).ownBlock) (.slice Ao21 t464.length co21) t464) ∧ Aside0 (Kd.R Kd.string 9 wc w.heap.size (fun k_ => some k_ ≠ ((.slice Ao21 t464.length co21) : Value).ownBlock ∧ some k_ ≠ ((.slice Ao36 t476.length co36) : Value).ownBlock ∧ some k_ ≠ ((.slice Ao37 t479.length co37) : Value).ownBlock) (.slice Ao22 t467.length co22) t467) ∧ Aside0 (Kd.R Kd.string 9 wc w.heap.size (fun k_ => some k_ ≠ ((.slice Ao21 t464.length co21) : Value).ownBlock ∧ some k_ ≠ ((.slice Ao22 t467.length co22) : Value).ownBlock ∧ some k_ ≠ ((.slice Ao37 t479.length co37) : Value).ownBlock) (.slice Ao36 t476.length co36) t476) ∧ Aside0 (Kd.R Kd.string 9 wc w.heap.size (fun k_ => some k_ ≠ ((.slice Ao21 t464.length co21) : Value).ownBlock ∧ some k_ ≠ ((.slice Ao22 t467.length co22) : Value).ownBlock ∧ some k_ ≠ ((.slice Ao36 t476.length co36) : Value).ownBlock) (.slice Ao37 t479.length co37) t479) ∧ Aside0 (wc.heap[gb460]? = some (.cells #[.string t100, .int .i64 t458] 71 (0, 0))) ∧ Aside0 (wc.heap[gb471]? = some (.cells #[.string t461, .int .i64 t462] 71 (0, 0))) ∧ Aside0 (wc.heap[gb472]? = some (.cells #[.int .i64 t463, (.slice Ao21 t464.length co21), (.slice Ao22 t467.length co22)] 75 (0, 0))) ∧ Aside0 (wc.heap[gb483]? = some (.cells #[.string t473, .int .i64 t474] 71 (0, 0))) ∧ Aside0 (wc.heap[gb484]? = some (.cells #[.int .i64 t475, (.slice Ao36 t476.length co36), (.slice Ao37 t479.length co37)] 75 (0, 0))) ∧ Aside0 (Below w.heap.size w wc))
     case first =>
      have H := HC67.out; clear HC67
      by_cases c68 : t470 = true
      ·subst c68
       have H1 : ((impl_TopOf.f kj8 t100).bind fun bt491 => ((impl_CheckSeal.f kj8 bt491.1 t459 t463 t464 t467).bind fun bt493 => ((impl_LeftIn.f t461 t462).bind fun bt495 => (if bt491.2 = true then (if bt493.2 = true then (if bt493.1 = true then (if bt495.2 = true then (if bt495.1 = (wrap64 (t485 - 1)) then (if t463 = t458 then ((impl_GoodSigner.f t461 t462).bind fun t497 => (if t497 = true then (laws_FnSeals.j1 kj8 l1 true t485 t486) else (some false))) else (some false)) else (some false)) else (some false)) else (some false)) else (some false)) else (some false))))) = some r := by rw [if_pos rfl] at H; exact H
       clear H; have H := H1; clear H1; replace H := zAF H; obtain ⟨⟨t491, t492⟩, A690, H⟩ := H; replace H : ((impl_CheckSeal.f kj8 t491 t459 t463 t464 t467).bind fun bt493 => ((impl_LeftIn.f t461 t462).bind fun bt495 => (if t492 = true then (if bt493.2 = true then (if bt493.1 = true then (if bt495.2 = true then (if bt495.1 = (wrap64 (t485 - 1)) then (if t463 = t458 then ((impl_GoodSigner.f t461 t462).bind fun t497 => (if t497 = true then (laws_FnSeals.j1 kj8 l1 true t485 t486) else (some false))) else (some false)) else (some false)) else (some false)) else (some false)) else (some false)) else (some false)))) = some r := H; have A69 := zA A690; clear A690; replace H := zAF H; obtain ⟨⟨t493, t494⟩, A700, H⟩ := H; replace H : ((impl_LeftIn.f t461 t462).bind fun bt495 => (if t492 = true then (if t494 = true then (if t493 = true then (if bt495.2 = true then (if bt495.1 = (wrap64 (t485 - 1)) then (if t463 = t458 then ((impl_GoodSigner.f t461 t462).bind fun t497 => (if t497 = true then (laws_FnSeals.j1 kj8 l1 true t485 t486) else (some false))) else (some false)) else (some false)) else (some false)) else (some false)) else (some false)) else (some false))) = some r := H; have A70 := zA A700; clear A700; replace H := zAF H; obtain ⟨⟨t495, t496⟩, A710, H⟩ := H; replace H : (if t492 = true then (if t494 = true then (if t493 = true then (if t496 = true then (if t495 = (wrap64 (t485 - 1)) then (if t463 = t458 then ((impl_GoodSigner.f t461 t462).bind fun t497 => (if t497 = true then (laws_FnSeals.j1 kj8 l1 true t485 t486) else (some false))) else (some false)) else (some false)) else (some false)) else (some false)) else (some false)) else (some false)) = some r := H; have A71 := zA A710; clear A710
       by_cases c72 : t492 = true
       ·subst c72
        have H1 : (if t494 = true then (if t493 = true then (if t496 = true then (if t495 = (wrap64 (t485 - 1)) then (if t463 = t458 then ((impl_GoodSigner.f t461 t462).bind fun t497 => (if t497 = true then (laws_FnSeals.j1 kj8 l1 true t485 t486) else (some false))) else (some false)) else (some false)) else (some false)) else (some false)) else (some false)) = some r := by rw [if_pos rfl] at H; exact H
        clear H; have H := H1; clear H1
        by_cases c73 : t494 = true
        ·subst c73
         have H1 : (if t493 = true then (if t496 = true then (if t495 = (wrap64 (t485 - 1)) then (if t463 = t458 then ((impl_GoodSigner.f t461 t462).bind fun t497 => (if t497 = true then (laws_FnSeals.j1 kj8 l1 true t485 t486) else (some false))) else (some false)) else (some false)) else (some false)) else (some false)) = some r := by rw [if_pos rfl] at H; exact H
         clear H; have H := H1; clear H1
         by_cases c74 : t493 = true
         ·subst c74
          have H1 : (if t496 = true then (if t495 = (wrap64 (t485 - 1)) then (if t463 = t458 then ((impl_GoodSigner.f t461 t462).bind fun t497 => (if t497 = true then (laws_FnSeals.j1 kj8 l1 true t485 t486) else (some false))) else (some false)) else (some false)) else (some false)) = some r := by rw [if_pos rfl] at H; exact H
          clear H; have H := H1; clear H1
          by_cases c75 : t496 = true
          ·subst c75
           have H1 : (if t495 = (wrap64 (t485 - 1)) then (if t463 = t458 then ((impl_GoodSigner.f t461 t462).bind fun t497 => (if t497 = true then (laws_FnSeals.j1 kj8 l1 true t485 t486) else (some false))) else (some false)) else (some false)) = some r := by rw [if_pos rfl] at H; exact H
           clear H; have H := H1; clear H1
           by_cases c76 : t495 = (wrap64 (t485 - 1))
           ·rw [if_pos c76] at H
            have c76b0 : (t495 == (wrap64 (t485 - 1))) = true := beq_iff_eq.mpr c76; have c76b1 : (t495 != (wrap64 (t485 - 1))) = false := bne_eq_false_iff_eq.mpr c76; clear c76; (first | rw [c76b0] | (simp only [i64_w, i32_w]; rw [c76b0]) | skip)
            by_cases c77 : t463 = t458
            ·rw [if_pos c77] at H
             have c77b0 : (t463 == t458) = true := beq_iff_eq.mpr c77; have c77b1 : (t463 != t458) = false := bne_eq_false_iff_eq.mpr c77; clear c77; replace H := zAF H; obtain ⟨t497, A780, H⟩ := H; replace H : (if t497 = true then (laws_FnSeals.j1 kj8 l1 true t485 t486) else (some false)) = some r := H; have A78 := zA A780; clear A780
             by_cases c79 : t497 = true
             ·subst c79
              have H1 : (laws_FnSeals.j1 kj8 l1 true t485 t486) = some r := by rw [if_pos rfl] at H; exact H
              clear H; have H := H1; clear H1
              as_aux_lemma =>
               have H' := zA H; clear H; have hnb80 := NB460_471.out; have hnc80 := NB471_460.out; have hnb81 := NB460_472.out; have hnc81 := NB472_460.out; have hnb82 := NB460_483.out; have hnc82 := NB483_460.out; have hnb83 := NB460_484.out; have hnc83 := NB484_460.out; have hcz84_0 := yL BK460.out 0 (.string t100) rfl; have hcz84_1 := yL BK460.out 1 (.int .i64 t458) rfl; have hfz84_0 := zO BK460.out 0; have hfz84_1 := zO BK460.out 1; go_wp2_with (first | ((with_reducible refine yB (f := 54) rfl ?_); refine goesL_ (some 99) rfl rfl Try.func54 (by kernel_rfl) rfl #[.string t100] rfl (by (try simp only [zAA, zAB, zAC]); first | done | rfl) ?_; (with_reducible refine (impl_TopOf.calls kj8 t100 t491 true _ A69.out).mono ?_); rintro e w85 ⟨rfl, hb⟩; refine ⟨_, rfl, ?_⟩; have n0_ := zA (Kd.R_below (by (with_reducible repeat first | apply zQ | apply zR | apply zS); exact HO_473001.out) hb); have n1_ := zA (Kd.R_below (by (with_reducible repeat first | apply zQ | apply zR | apply zS); exact HO_473002.out) hb); have n2_ := zA (Kd.R_below (by (with_reducible repeat first | apply zQ | apply zR | apply zS); exact HO_485001.out) hb); have n3_ := zA (Kd.R_below (by (with_reducible repeat first | apply zQ | apply zR | apply zS); exact HO_485002.out) hb); have n4_ := zA (yE (g := gb460) (o := .cells #[.string t100, .int .i64 t458] 71 (0, 0)) (by (with_reducible repeat (first | refine zL ?_ _ | refine zN ?_ | refine zM ?_ _)); exact BK460.out) hb); have n5_ := zA (yE (g := gb471) (o := .cells #[.string t461, .int .i64 t462] 71 (0, 0)) (by (with_reducible repeat (first | refine zL ?_ _ | refine zN ?_ | refine zM ?_ _)); exact BK471.out) hb); have n6_ := zA (yE (g := gb472) (o := .cells #[.int .i64 t463, .slice Ao21 t464.length co21, .slice Ao22 t467.length co22] 75 (0, 0)) (by (with_reducible repeat (first | refine zL ?_ _ | refine zN ?_ | refine zM ?_ _)); exact BK472.out) hb); have n7_ := zA (yE (g := gb483) (o := .cells #[.string t473, .int .i64 t474] 71 (0, 0)) (by (with_reducible repeat (first | refine zL ?_ _ | refine zN ?_ | refine zM ?_ _)); exact BK483.out) hb); have n8_ := zA (yE (g := gb484) (o := .cells #[.int .i64 t475, .slice Ao36 t476.length co36, .slice Ao37 t479.length co37] 75 (0, 0)) (by (with_reducible repeat (first | refine zL ?_ _ | refine zN ?_ | refine zM ?_ _)); exact BK484.out) hb); have n9_ := zA (zAD (by repeat (first | (with_reducible first | exact HB.out | apply zH | apply zF | apply zG | refine zI ?_ GE460.out | refine zI ?_ GE471.out | refine zI ?_ GE472.out | refine zI ?_ GE483.out | refine zI ?_ GE484.out) | exact HB.out)) hb); clear HO_473001; clear HO_473002; clear HO_485001; clear HO_485002; clear BK460; clear BK471; clear BK472; clear BK483; clear BK484; clear HB; have HO_473001 := n0_; have HO_473002 := n1_; have HO_485001 := n2_; have HO_485002 := n3_; have BK460 := n4_; have BK471 := n5_; have BK472 := n6_; have BK483 := n7_; have BK484 := n8_; have HB := n9_; clear n0_ n1_ n2_ n3_ n4_ n5_ n6_ n7_ n8_ n9_; (try clear hb); have hnb86 := NB472_471.out; have hnc86 := NB471_472.out; have hnb87 := NB472_483.out; have hnc87 := NB483_472.out; have hnb88 := NB472_484.out; have hnc88 := NB484_472.out; have hcz89_0 := yL BK472.out 0 (.int .i64 t463) rfl; have hcz89_1 := yL BK472.out 1 (.slice Ao21 t464.length co21) rfl; have hcz89_2 := yL BK472.out 2 (.slice Ao22 t467.length co22) rfl; have hfz89_0 := zO BK472.out 0; have hfz89_1 := zO BK472.out 1; have hfz89_2 := zO BK472.out 2) | ((with_reducible refine yB (f := 55) rfl ?_); refine goesL_ (some 106) rfl rfl Try.func55 (by kernel_rfl) rfl #[.string t491, .string t459, .agg #[.int .i64 t463, .slice Ao21 t464.length co21, .slice Ao22 t467.length co22]] rfl (by (try simp only [zAA, zAB, zAC]); first | done | rfl | (simp only [zZ, zY]; rfl)) ?_; (with_reducible refine (impl_CheckSeal.calls kj8 t491 t459 t463 _ _ t464 _ _ t467 true true _ ?side1 ?side2 ?side3 ?side4 A70.out).mono ?_); (case side1 => repeat (first | exact (yD HO_473001.out).2.2 | (with_reducible first | refine zT ?_ _ | refine zU ?_ _ | refine zV ?_))); (case side2 => exact (yD HO_473001.out).2.1); (case side3 => repeat (first | exact (yD HO_473002.out).2.2 | (with_reducible first | refine zT ?_ _ | refine zU ?_ _ | refine zV ?_))); (case side4 => exact (yD HO_473002.out).2.1); rintro e w90 ⟨rfl, hb⟩; refine ⟨_, rfl, ?_⟩; have n0_ := zA (Kd.R_below (by (with_reducible repeat first | apply zQ | apply zR | apply zS); exact HO_473001.out) hb); have n1_ := zA (Kd.R_below (by (with_reducible repeat first | apply zQ | apply zR | apply zS); exact HO_473002.out) hb); have n2_ := zA (Kd.R_below (by (with_reducible repeat first | apply zQ | apply zR | apply zS); exact HO_485001.out) hb); have n3_ := zA (Kd.R_below (by (with_reducible repeat first | apply zQ | apply zR | apply zS); exact HO_485002.out) hb); have n4_ := zA (yE (g := gb460) (o := .cells #[.string t100, .int .i64 t458] 71 (0, 0)) (by (with_reducible repeat (first | refine zL ?_ _ | refine zN ?_ | refine zM ?_ _)); exact BK460.out) hb); have n5_ := zA (yE (g := gb471) (o := .cells #[.string t461, .int .i64 t462] 71 (0, 0)) (by (with_reducible repeat (first | refine zL ?_ _ | refine zN ?_ | refine zM ?_ _)); exact BK471.out) hb); have n6_ := zA (yE (g := gb472) (o := .cells #[.int .i64 t463, .slice Ao21 t464.length co21, .slice Ao22 t467.length co22] 75 (0, 0)) (by (with_reducible repeat (first | refine zL ?_ _ | refine zN ?_ | refine zM ?_ _)); exact BK472.out) hb); have n7_ := zA (yE (g := gb483) (o := .cells #[.string t473, .int .i64 t474] 71 (0, 0)) (by (with_reducible repeat (first | refine zL ?_ _ | refine zN ?_ | refine zM ?_ _)); exact BK483.out) hb); have n8_ := zA (yE (g := gb484) (o := .cells #[.int .i64 t475, .slice Ao36 t476.length co36, .slice Ao37 t479.length co37] 75 (0, 0)) (by (with_reducible repeat (first | refine zL ?_ _ | refine zN ?_ | refine zM ?_ _)); exact BK484.out) hb); have n9_ := zA (zAD (by repeat (first | (with_reducible first | exact HB.out | apply zH | apply zF | apply zG | refine zI ?_ GE460.out | refine zI ?_ GE471.out | refine zI ?_ GE472.out | refine zI ?_ GE483.out | refine zI ?_ GE484.out) | exact HB.out)) hb); clear HO_473001; clear HO_473002; clear HO_485001; clear HO_485002; clear BK460; clear BK471; clear BK472; clear BK483; clear BK484; clear HB; have HO_473001 := n0_; have HO_473002 := n1_; have HO_485001 := n2_; have HO_485002 := n3_; have BK460 := n4_; have BK471 := n5_; have BK472 := n6_; have BK483 := n7_; have BK484 := n8_; have HB := n9_; clear n0_ n1_ n2_ n3_ n4_ n5_ n6_ n7_ n8_ n9_; (try clear hb); have hnb91 := NB471_483.out; have hnc91 := NB483_471.out; have hnb92 := NB471_484.out; have hnc92 := NB484_471.out; have hcz93_0 := yL BK471.out 0 (.string t461) rfl; have hcz93_1 := yL BK471.out 1 (.int .i64 t462) rfl; have hfz93_0 := zO BK471.out 0; have hfz93_1 := zO BK471.out 1) | ((with_reducible refine yB (f := 50) rfl ?_); refine goesL_ (some 111) rfl rfl Try.func50 (by kernel_rfl) rfl #[.agg #[.string t461, .int .i64 t462]] rfl (by (try simp only [zAA, zAB, zAC]); first | done | rfl) ?_; (with_reducible refine (impl_LeftIn.calls t461 t462 t495 true _ A71.out).mono ?_); rintro e w94 ⟨rfl, hb⟩; refine ⟨_, rfl, ?_⟩; have n0_ := zA (Kd.R_below (by (with_reducible repeat first | apply zQ | apply zR | apply zS); exact HO_473001.out) hb); have n1_ := zA (Kd.R_below (by (with_reducible repeat first | apply zQ | apply zR | apply zS); exact HO_473002.out) hb); have n2_ := zA (Kd.R_below (by (with_reducible repeat first | apply zQ | apply zR | apply zS); exact HO_485001.out) hb); have n3_ := zA (Kd.R_below (by (with_reducible repeat first | apply zQ | apply zR | apply zS); exact HO_485002.out) hb); have n4_ := zA (yE (g := gb460) (o := .cells #[.string t100, .int .i64 t458] 71 (0, 0)) (by (with_reducible repeat (first | refine zL ?_ _ | refine zN ?_ | refine zM ?_ _)); exact BK460.out) hb); have n5_ := zA (yE (g := gb471) (o := .cells #[.string t461, .int .i64 t462] 71 (0, 0)) (by (with_reducible repeat (first | refine zL ?_ _ | refine zN ?_ | refine zM ?_ _)); exact BK471.out) hb); have n6_ := zA (yE (g := gb472) (o := .cells #[.int .i64 t463, .slice Ao21 t464.length co21, .slice Ao22 t467.length co22] 75 (0, 0)) (by (with_reducible repeat (first | refine zL ?_ _ | refine zN ?_ | refine zM ?_ _)); exact BK472.out) hb); have n7_ := zA (yE (g := gb483) (o := .cells #[.string t473, .int .i64 t474] 71 (0, 0)) (by (with_reducible repeat (first | refine zL ?_ _ | refine zN ?_ | refine zM ?_ _)); exact BK483.out) hb); have n8_ := zA (yE (g := gb484) (o := .cells #[.int .i64 t475, .slice Ao36 t476.length co36, .slice Ao37 t479.length co37] 75 (0, 0)) (by (with_reducible repeat (first | refine zL ?_ _ | refine zN ?_ | refine zM ?_ _)); exact BK484.out) hb); have n9_ := zA (zAD (by repeat (first | (with_reducible first | exact HB.out | apply zH | apply zF | apply zG | refine zI ?_ GE460.out | refine zI ?_ GE471.out | refine zI ?_ GE472.out | refine zI ?_ GE483.out | refine zI ?_ GE484.out) | exact HB.out)) hb); clear HO_473001; clear HO_473002; clear HO_485001; clear HO_485002; clear BK460; clear BK471; clear BK472; clear BK483; clear BK484; clear HB; have HO_473001 := n0_; have HO_473002 := n1_; have HO_485001 := n2_; have HO_485002 := n3_; have BK460 := n4_; have BK471 := n5_; have BK472 := n6_; have BK483 := n7_; have BK484 := n8_; have HB := n9_; clear n0_ n1_ n2_ n3_ n4_ n5_ n6_ n7_ n8_ n9_; (try clear hb); have hcz95_0 := yL BK472.out 0 (.int .i64 t463) rfl; have hcz95_1 := yL BK472.out 1 (.slice Ao21 t464.length co21) rfl; have hcz95_2 := yL BK472.out 2 (.slice Ao22 t467.length co22) rfl; have hfz95_0 := zO BK472.out 0; have hfz95_1 := zO BK472.out 1; have hfz95_2 := zO BK472.out 2; have hcz96_0 := yL BK460.out 0 (.string t100) rfl; have hcz96_1 := yL BK460.out 1 (.int .i64 t458) rfl; have hfz96_0 := zO BK460.out 0; have hfz96_1 := zO BK460.out 1; have hcz97_0 := yL BK471.out 0 (.string t461) rfl; have hcz97_1 := yL BK471.out 1 (.int .i64 t462) rfl; have hfz97_0 := zO BK471.out 0; have hfz97_1 := zO BK471.out 1) | (go_at_call 53; (with_reducible refine (impl_GoodSigner.calls t461 t462 true _ A78.out).mono ?_); rintro e w98 ⟨rfl, hb⟩; have n0_ := zA (Kd.R_below (by (with_reducible repeat first | apply zQ | apply zR | apply zS); exact HO_473001.out) hb); have n1_ := zA (Kd.R_below (by (with_reducible repeat first | apply zQ | apply zR | apply zS); exact HO_473002.out) hb); have n2_ := zA (Kd.R_below (by (with_reducible repeat first | apply zQ | apply zR | apply zS); exact HO_485001.out) hb); have n3_ := zA (Kd.R_below (by (with_reducible repeat first | apply zQ | apply zR | apply zS); exact HO_485002.out) hb); have n4_ := zA (yE (g := gb460) (o := .cells #[.string t100, .int .i64 t458] 71 (0, 0)) (by (with_reducible repeat (first | refine zL ?_ _ | refine zN ?_ | refine zM ?_ _)); exact BK460.out) hb); have n5_ := zA (yE (g := gb471) (o := .cells #[.string t461, .int .i64 t462] 71 (0, 0)) (by (with_reducible repeat (first | refine zL ?_ _ | refine zN ?_ | refine zM ?_ _)); exact BK471.out) hb); have n6_ := zA (yE (g := gb472) (o := .cells #[.int .i64 t463, .slice Ao21 t464.length co21, .slice Ao22 t467.length co22] 75 (0, 0)) (by (with_reducible repeat (first | refine zL ?_ _ | refine zN ?_ | refine zM ?_ _)); exact BK472.out) hb); have n7_ := zA (yE (g := gb483) (o := .cells #[.string t473, .int .i64 t474] 71 (0, 0)) (by (with_reducible repeat (first | refine zL ?_ _ | refine zN ?_ | refine zM ?_ _)); exact BK483.out) hb); have n8_ := zA (yE (g := gb484) (o := .cells #[.int .i64 t475, .slice Ao36 t476.length co36, .slice Ao37 t479.length co37] 75 (0, 0)) (by (with_reducible repeat (first | refine zL ?_ _ | refine zN ?_ | refine zM ?_ _)); exact BK484.out) hb); have n9_ := zA (zAD (by repeat (first | (with_reducible first | exact HB.out | apply zH | apply zF | apply zG | refine zI ?_ GE460.out | refine zI ?_ GE471.out | refine zI ?_ GE472.out | refine zI ?_ GE483.out | refine zI ?_ GE484.out) | exact HB.out)) hb); clear HO_473001; clear HO_473002; clear HO_485001; clear HO_485002; clear BK460; clear BK471; clear BK472; clear BK483; clear BK484; clear HB; have HO_473001 := n0_; have HO_473002 := n1_; have HO_485001 := n2_; have HO_485002 := n3_; have BK460 := n4_; have BK471 := n5_; have BK472 := n6_; have BK483 := n7_; have BK484 := n8_; have HB := n9_; clear n0_ n1_ n2_ n3_ n4_ n5_ n6_ n7_ n8_ n9_; (try clear hb)))
               go_meet
               case rel => exact ⟨_, H', ⟨by have := HJ8.out; first | omega | exact Nat.le_refl _⟩, ⟨by (with_reducible repeat first | apply zQ | apply zR | apply zS); exact HO_473001.out⟩, ⟨by (with_reducible repeat first | apply zQ | apply zR | apply zS); exact HO_473002.out⟩, ⟨by (with_reducible repeat first | apply zQ | apply zR | apply zS); exact HO_485001.out⟩, ⟨by (with_reducible repeat first | apply zQ | apply zR | apply zS); exact HO_485002.out⟩, ⟨by (with_reducible repeat (first | refine zL ?_ _ | refine zN ?_ | refine zM ?_ _)); exact BK460.out⟩, ⟨by (with_reducible repeat (first | refine zL ?_ _ | refine zN ?_ | refine zM ?_ _)); exact BK471.out⟩, ⟨by (with_reducible repeat (first | refine zL ?_ _ | refine zN ?_ | refine zM ?_ _)); exact BK472.out⟩, ⟨by (with_reducible repeat (first | refine zL ?_ _ | refine zN ?_ | refine zM ?_ _)); exact BK483.out⟩, ⟨by (with_reducible repeat (first | refine zL ?_ _ | refine zN ?_ | refine zM ?_ _)); exact BK484.out⟩, ⟨by repeat (first | (with_reducible first | exact HB.out | apply zH | apply zF | apply zG | refine zI ?_ GE460.out | refine zI ?_ GE471.out | refine zI ?_ GE472.out | refine zI ?_ GE483.out | refine zI ?_ GE484.out) | exact HB.out)⟩⟩
             ·replace c79 := yO c79
              subst c79; have H1 : (some false) = some r := by rw [if_neg (show ¬ (false = true) by decide)] at H; exact H
              clear H; have H := H1; clear H1
              as_aux_lemma =>
               exact absurd ((yM H).trans hr_.out) (by decide)
            ·rw [if_neg c77] at H
             have c77b0 : (t463 == t458) = false := beq_eq_false_iff_ne.mpr c77; have c77b1 : (t463 != t458) = true := bne_iff_ne.mpr c77
             as_aux_lemma =>
              exact absurd ((yM H).trans hr_.out) (by decide)
           ·rw [if_neg c76] at H
            have c76b0 : (t495 == (wrap64 (t485 - 1))) = false := beq_eq_false_iff_ne.mpr c76; have c76b1 : (t495 != (wrap64 (t485 - 1))) = true := bne_iff_ne.mpr c76; (first | rw [c76b0] | (simp only [i64_w, i32_w]; rw [c76b0]) | skip)
            as_aux_lemma =>
             exact absurd ((yM H).trans hr_.out) (by decide)
          ·replace c75 := yO c75
           subst c75; have H1 : (some false) = some r := by rw [if_neg (show ¬ (false = true) by decide)] at H; exact H
           clear H; have H := H1; clear H1
           as_aux_lemma =>
            exact absurd ((yM H).trans hr_.out) (by decide)
         ·replace c74 := yO c74
          subst c74; have H1 : (some false) = some r := by rw [if_neg (show ¬ (false = true) by decide)] at H; exact H
          clear H; have H := H1; clear H1
          as_aux_lemma =>
           exact absurd ((yM H).trans hr_.out) (by decide)
        ·replace c73 := yO c73
         subst c73; have H1 : (some false) = some r := by rw [if_neg (show ¬ (false = true) by decide)] at H; exact H
         clear H; have H := H1; clear H1
         as_aux_lemma =>
          exact absurd ((yM H).trans hr_.out) (by decide)
       ·replace c72 := yO c72
        subst c72; have H1 : (some false) = some r := by rw [if_neg (show ¬ (false = true) by decide)] at H; exact H
        clear H; have H := H1; clear H1
        as_aux_lemma =>
         exact absurd ((yM H).trans hr_.out) (by decide)
      ·replace c68 := yO c68
       subst c68; have H1 : (laws_FnSeals.j1 kj8 l1 false t485 t486) = some r := by rw [if_neg (show ¬ (false = true) by decide)] at H; exact H
       clear H; have H := H1; clear H1
       as_aux_lemma =>
        have H' := zA H; clear H; go_wp2; go_meet
        case rel => exact ⟨_, H', ⟨by have := HJ8.out; first | omega | exact Nat.le_refl _⟩, ⟨by (with_reducible repeat first | apply zQ | apply zR | apply zS); exact HO_473001.out⟩, ⟨by (with_reducible repeat first | apply zQ | apply zR | apply zS); exact HO_473002.out⟩, ⟨by (with_reducible repeat first | apply zQ | apply zR | apply zS); exact HO_485001.out⟩, ⟨by (with_reducible repeat first | apply zQ | apply zR | apply zS); exact HO_485002.out⟩, ⟨by (with_reducible repeat (first | refine zL ?_ _ | refine zN ?_ | refine zM ?_ _)); exact BK460.out⟩, ⟨by (with_reducible repeat (first | refine zL ?_ _ | refine zN ?_ | refine zM ?_ _)); exact BK471.out⟩, ⟨by (with_reducible repeat (first | refine zL ?_ _ | refine zN ?_ | refine zM ?_ _)); exact BK472.out⟩, ⟨by (with_reducible repeat (first | refine zL ?_ _ | refine zN ?_ | refine zM ?_ _)); exact BK483.out⟩, ⟨by (with_reducible repeat (first | refine zL ?_ _ | refine zN ?_ | refine zM ?_ _)); exact BK484.out⟩, ⟨by repeat (first | (with_reducible first | exact HB.out | apply zH | apply zF | apply zG | refine zI ?_ GE460.out | refine zI ?_ GE471.out | refine zI ?_ GE472.out | refine zI ?_ GE483.out | refine zI ?_ GE484.out) | exact HB.out)⟩⟩
     case rest =>
      clear HC67
      try clear c1
      try clear c2
      try clear p2
      try clear c3
      try clear c3b0
      try clear c4
      try clear c5
      try clear c6
      try clear p6
      try clear c7
      try clear c8
      try clear c9
      try clear c16
      try clear c17
      try clear c19
      try clear c27
      try clear c28
      try clear c29
      try clear c30
      try clear c32
      try clear c33
      try clear c34
      try clear c42
      try clear c42b0
      try clear c42b1
      try clear c42b2
      try clear c43
      try clear c43b0
      try clear c45
      try clear c46
      try clear c46b0
      try clear c46b1
      try clear c46b2
      try clear c47
      try clear c47b0
      try clear c47b1
      try clear c48
      try clear c49
      try clear c50
      try clear c51
      try clear c52
      try clear c54
      try clear c55
      try clear c56
      try clear c58
      try clear c59
      try clear c61
      try clear p64
      try clear c66
      try clear c68
      try clear c72
      try clear c73
      try clear c74
      try clear c75
      try clear c76
      try clear c76b0
      try clear c76b1
      try clear c77
      try clear c77b0
      try clear c77b1
      try clear c79
      try clear c80
      try clear c81
      try clear c82
      try clear c83
      try clear c86
      try clear c87
      try clear c88
      try clear c91
      try clear c92
      try clear hcz12_0
      try clear hcz12_1
      try clear hcz18_0
      try clear hcz18_1
      try clear hcz20_0
      try clear hcz20_1
      try clear hcz20_2
      try clear hcz23_0
      try clear hcz23_1
      try clear hcz31_0
      try clear hcz31_1
      try clear hcz35_0
      try clear hcz35_1
      try clear hcz35_2
      try clear hcz38_0
      try clear hcz38_1
      try clear hcz40_0
      try clear hcz40_1
      try clear hcz53_0
      try clear hcz53_1
      try clear hcz57_0
      try clear hcz57_1
      try clear hcz60_0
      try clear hcz60_1
      try clear hcz60_2
      try clear hcz62_0
      try clear hcz62_1
      try clear hcz62_2
      try clear hcz64_0
      try clear hcz64_1
      try clear hcz84_0
      try clear hcz84_1
      try clear hcz89_0
      try clear hcz89_1
      try clear hcz89_2
      try clear hcz93_0
      try clear hcz93_1
      try clear hcz95_0
      try clear hcz95_1
      try clear hcz95_2
      try clear hcz96_0
      try clear hcz96_1
      try clear hcz97_0
      try clear hcz97_1
      try clear hfz12_0
      try clear hfz12_1
      try clear hfz18_0
      try clear hfz18_1
      try clear hfz20_0
      try clear hfz20_1
      try clear hfz20_2
      try clear hfz23_0
      try clear hfz23_1
      try clear hfz31_0
      try clear hfz31_1
      try clear hfz35_0
      try clear hfz35_1
      try clear hfz35_2
      try clear hfz38_0
      try clear hfz38_1
      try clear hfz40_0
      try clear hfz40_1
      try clear hfz53_0
      try clear hfz53_1
      try clear hfz57_0
      try clear hfz57_1
      try clear hfz60_0
      try clear hfz60_1
      try clear hfz60_2
      try clear hfz62_0
      try clear hfz62_1
      try clear hfz62_2
      try clear hfz64_0
      try clear hfz64_1
      try clear hfz84_0
      try clear hfz84_1
      try clear hfz89_0
      try clear hfz89_1
      try clear hfz89_2
      try clear hfz93_0
      try clear hfz93_1
      try clear hfz95_0
      try clear hfz95_1
      try clear hfz95_2
      try clear hfz96_0
      try clear hfz96_1
      try clear hfz97_0
      try clear hfz97_1
      try clear p2
      try clear p6
      try clear p64
      obtain ⟨kq, HA, HJ66, HO_473001, HO_473002, HO_485001, HO_485002, BK460, BK471, BK472, BK483, BK484, HB⟩ := hcut
      cases kq with
      | zero => exact absurd HA.out (by simp [laws_FnSeals.j1])
      | succ kj66 =>
       have H := HA.out; clear HA; simp only [laws_FnSeals.j1] at H; have HC99 := zA H; clear H; go_upto_region 16 with (fail)
       go_cut [153] (fun v153 wc => ∃ (kq : Nat) (x153_98 : Bool), v153 = .bool x153_98 ∧ Aside0 (laws_FnSeals.j2 kq l1 x153_98 = some r) ∧ Aside0 (kq ≤ kj66) ∧ Aside0 (Kd.R Kd.string 9 wc w.heap.size (fun k_ => some k_ ≠ ((.slice Ao22 t467.length co22) : Value).ownBlock ∧ some k_ ≠ ((.slice Ao36 t476.length co36) : Value).ownBlock ∧ some k_ ≠ ((.slice Ao37 t479.length co37) : Value).ownBlock) (.slice Ao21 t464.length co21) t464) ∧ Aside0 (Kd.R Kd.string 9 wc w.heap.size (fun k_ => some k_ ≠ ((.slice Ao21 t464.length co21) : Value).ownBlock ∧ some k_ ≠ ((.slice Ao36 t476.length co36) : Value).ownBlock ∧ some k_ ≠ ((.slice Ao37 t479.length co37) : Value).ownBlock) (.slice Ao22 t467.length co22) t467) ∧ Aside0 (Kd.R Kd.string 9 wc w.heap.size (fun k_ => some k_ ≠ ((.slice Ao21 t464.length co21) : Value).ownBlock ∧ some k_ ≠ ((.slice Ao22 t467.length co22) : Value).ownBlock ∧ some k_ ≠ ((.slice Ao37 t479.length co37) : Value).ownBlock) (.slice Ao36 t476.length co36) t476) ∧ Aside0 (Kd.R Kd.string 9 wc w.heap.size (fun k_ => some k_ ≠ ((.slice Ao21 t464.length co21) : Value).ownBlock ∧ some k_ ≠ ((.slice Ao22 t467.length co22) : Value).ownBlock ∧ some k_ ≠ ((.slice Ao36 t476.length co36) : Value).ownBlock) (.slice Ao37 t479.length co37) t479) ∧ Aside0 (wc.heap[gb460]? = some (.cells #[.string t100, .int .i64 t458] 71 (0, 0))) ∧ Aside0 (wc.heap[gb471]? = some (.cells #[.string t461, .int .i64 t462] 71 (0, 0))) ∧ Aside0 (wc.heap[gb472]? = some (.cells #[.int .i64 t463, (.slice Ao21 t464.length co21), (.slice Ao22 t467.length co22)] 75 (0, 0))) ∧ Aside0 (wc.heap[gb483]? = some (.cells #[.string t473, .int .i64 t474] 71 (0, 0))) ∧ Aside0 (wc.heap[gb484]? = some (.cells #[.int .i64 t475, (.slice Ao36 t476.length co36), (.slice Ao37 t479.length co37)] 75 (0, 0))) ∧ Aside0 (Below w.heap.size w wc))
       case first =>
        have H := HC99.out; clear HC99
        by_cases c100 : t486 = true
        ·subst c100
         have H1 : (if t485 = 0 then (laws_FnSeals.j2 kj66 l1 t470) else (laws_FnSeals.j2 kj66 l1 false)) = some r := by rw [if_pos rfl] at H; exact H
         clear H; have H := H1; clear H1
         by_cases c101 : t485 = 0
         ·rw [if_pos c101] at H
          have c101b0 : (t485 == 0) = true := beq_iff_eq.mpr c101; have c101b1 : (t485 != 0) = false := bne_eq_false_iff_eq.mpr c101; clear c101; (first | rw [c101b0] | (simp only [i64_w, i32_w]; rw [c101b0]) | skip)
          as_aux_lemma =>
           have H' := zA H; clear H; go_wp2; go_meet
           case rel => exact ⟨_, (t470), (by first | rfl | (simp; done) | (simp [*]; done) | (simp [bne]; done)), H', ⟨by have := HJ8.out; have := HJ66.out; first | omega | exact Nat.le_refl _⟩, ⟨by (with_reducible repeat first | apply zQ | apply zR | apply zS); exact HO_473001.out⟩, ⟨by (with_reducible repeat first | apply zQ | apply zR | apply zS); exact HO_473002.out⟩, ⟨by (with_reducible repeat first | apply zQ | apply zR | apply zS); exact HO_485001.out⟩, ⟨by (with_reducible repeat first | apply zQ | apply zR | apply zS); exact HO_485002.out⟩, ⟨by (with_reducible repeat (first | refine zL ?_ _ | refine zN ?_ | refine zM ?_ _)); exact BK460.out⟩, ⟨by (with_reducible repeat (first | refine zL ?_ _ | refine zN ?_ | refine zM ?_ _)); exact BK471.out⟩, ⟨by (with_reducible repeat (first | refine zL ?_ _ | refine zN ?_ | refine zM ?_ _)); exact BK472.out⟩, ⟨by (with_reducible repeat (first | refine zL ?_ _ | refine zN ?_ | refine zM ?_ _)); exact BK483.out⟩, ⟨by (with_reducible repeat (first | refine zL ?_ _ | refine zN ?_ | refine zM ?_ _)); exact BK484.out⟩, ⟨by repeat (first | (with_reducible first | exact HB.out | apply zH | apply zF | apply zG | refine zI ?_ GE460.out | refine zI ?_ GE471.out | refine zI ?_ GE472.out | refine zI ?_ GE483.out | refine zI ?_ GE484.out) | exact HB.out)⟩⟩
         ·rw [if_neg c101] at H
          have c101b0 : (t485 == 0) = false := beq_eq_false_iff_ne.mpr c101; have c101b1 : (t485 != 0) = true := bne_iff_ne.mpr c101; (first | rw [c101b0] | (simp only [i64_w, i32_w]; rw [c101b0]) | skip)
          as_aux_lemma =>
           have H' := zA H; clear H; go_wp2; go_meet
           case rel => exact ⟨_, (false), (by first | rfl | (simp; done) | (simp [*]; done) | (simp [bne]; done)), H', ⟨by have := HJ8.out; have := HJ66.out; first | omega | exact Nat.le_refl _⟩, ⟨by (with_reducible repeat first | apply zQ | apply zR | apply zS); exact HO_473001.out⟩, ⟨by (with_reducible repeat first | apply zQ | apply zR | apply zS); exact HO_473002.out⟩, ⟨by (with_reducible repeat first | apply zQ | apply zR | apply zS); exact HO_485001.out⟩, ⟨by (with_reducible repeat first | apply zQ | apply zR | apply zS); exact HO_485002.out⟩, ⟨by (with_reducible repeat (first | refine zL ?_ _ | refine zN ?_ | refine zM ?_ _)); exact BK460.out⟩, ⟨by (with_reducible repeat (first | refine zL ?_ _ | refine zN ?_ | refine zM ?_ _)); exact BK471.out⟩, ⟨by (with_reducible repeat (first | refine zL ?_ _ | refine zN ?_ | refine zM ?_ _)); exact BK472.out⟩, ⟨by (with_reducible repeat (first | refine zL ?_ _ | refine zN ?_ | refine zM ?_ _)); exact BK483.out⟩, ⟨by (with_reducible repeat (first | refine zL ?_ _ | refine zN ?_ | refine zM ?_ _)); exact BK484.out⟩, ⟨by repeat (first | (with_reducible first | exact HB.out | apply zH | apply zF | apply zG | refine zI ?_ GE460.out | refine zI ?_ GE471.out | refine zI ?_ GE472.out | refine zI ?_ GE483.out | refine zI ?_ GE484.out) | exact HB.out)⟩⟩
        ·replace c100 := yO c100
         subst c100; have H1 : (laws_FnSeals.j2 kj66 l1 false) = some r := by rw [if_neg (show ¬ (false = true) by decide)] at H; exact H
         clear H; have H := H1; clear H1
         as_aux_lemma =>
          have H' := zA H; clear H; go_wp2; go_meet
          case rel => exact ⟨_, (false), (by first | rfl | (simp; done) | (simp [*]; done) | (simp [bne]; done)), H', ⟨by have := HJ8.out; have := HJ66.out; first | omega | exact Nat.le_refl _⟩, ⟨by (with_reducible repeat first | apply zQ | apply zR | apply zS); exact HO_473001.out⟩, ⟨by (with_reducible repeat first | apply zQ | apply zR | apply zS); exact HO_473002.out⟩, ⟨by (with_reducible repeat first | apply zQ | apply zR | apply zS); exact HO_485001.out⟩, ⟨by (with_reducible repeat first | apply zQ | apply zR | apply zS); exact HO_485002.out⟩, ⟨by (with_reducible repeat (first | refine zL ?_ _ | refine zN ?_ | refine zM ?_ _)); exact BK460.out⟩, ⟨by (with_reducible repeat (first | refine zL ?_ _ | refine zN ?_ | refine zM ?_ _)); exact BK471.out⟩, ⟨by (with_reducible repeat (first | refine zL ?_ _ | refine zN ?_ | refine zM ?_ _)); exact BK472.out⟩, ⟨by (with_reducible repeat (first | refine zL ?_ _ | refine zN ?_ | refine zM ?_ _)); exact BK483.out⟩, ⟨by (with_reducible repeat (first | refine zL ?_ _ | refine zN ?_ | refine zM ?_ _)); exact BK484.out⟩, ⟨by repeat (first | (with_reducible first | exact HB.out | apply zH | apply zF | apply zG | refine zI ?_ GE460.out | refine zI ?_ GE471.out | refine zI ?_ GE472.out | refine zI ?_ GE483.out | refine zI ?_ GE484.out) | exact HB.out)⟩⟩
       case rest =>
        clear HC99
        try clear c1
        try clear c2
        try clear p2
        try clear c3
        try clear c3b0
        try clear c4
        try clear c5
        try clear c6
        try clear p6
        try clear c7
        try clear c8
        try clear c9
        try clear c10
        try clear c16
        try clear c17
        try clear c19
        try clear c27
        try clear c28
        try clear c29
        try clear c30
        try clear c32
        try clear c33
        try clear c34
        try clear c42
        try clear c42b0
        try clear c42b1
        try clear c42b2
        try clear c43
        try clear c43b0
        try clear c45
        try clear c46
        try clear c46b0
        try clear c46b1
        try clear c46b2
        try clear c47
        try clear c47b0
        try clear c47b1
        try clear c48
        try clear c49
        try clear c50
        try clear c51
        try clear c52
        try clear c54
        try clear c55
        try clear c56
        try clear c58
        try clear c59
        try clear c61
        try clear p64
        try clear c66
        try clear c68
        try clear c72
        try clear c73
        try clear c74
        try clear c75
        try clear c76
        try clear c76b0
        try clear c76b1
        try clear c77
        try clear c77b0
        try clear c77b1
        try clear c79
        try clear c80
        try clear c81
        try clear c82
        try clear c83
        try clear c86
        try clear c87
        try clear c88
        try clear c91
        try clear c92
        try clear c100
        try clear c101
        try clear c101b0
        try clear c101b1
        try clear hcz12_0
        try clear hcz12_1
        try clear hcz18_0
        try clear hcz18_1
        try clear hcz20_0
        try clear hcz20_1
        try clear hcz20_2
        try clear hcz23_0
        try clear hcz23_1
        try clear hcz31_0
        try clear hcz31_1
        try clear hcz35_0
        try clear hcz35_1
        try clear hcz35_2
        try clear hcz38_0
        try clear hcz38_1
        try clear hcz40_0
        try clear hcz40_1
        try clear hcz53_0
        try clear hcz53_1
        try clear hcz57_0
        try clear hcz57_1
        try clear hcz60_0
        try clear hcz60_1
        try clear hcz60_2
        try clear hcz62_0
        try clear hcz62_1
        try clear hcz62_2
        try clear hcz64_0
        try clear hcz64_1
        try clear hcz84_0
        try clear hcz84_1
        try clear hcz89_0
        try clear hcz89_1
        try clear hcz89_2
        try clear hcz93_0
        try clear hcz93_1
        try clear hcz95_0
        try clear hcz95_1
        try clear hcz95_2
        try clear hcz96_0
        try clear hcz96_1
        try clear hcz97_0
        try clear hcz97_1
        try clear hfz12_0
        try clear hfz12_1
        try clear hfz18_0
        try clear hfz18_1
        try clear hfz20_0
        try clear hfz20_1
        try clear hfz20_2
        try clear hfz23_0
        try clear hfz23_1
        try clear hfz31_0
        try clear hfz31_1
        try clear hfz35_0
        try clear hfz35_1
        try clear hfz35_2
        try clear hfz38_0
        try clear hfz38_1
        try clear hfz40_0
        try clear hfz40_1
        try clear hfz53_0
        try clear hfz53_1
        try clear hfz57_0
        try clear hfz57_1
        try clear hfz60_0
        try clear hfz60_1
        try clear hfz60_2
        try clear hfz62_0
        try clear hfz62_1
        try clear hfz62_2
        try clear hfz64_0
        try clear hfz64_1
        try clear hfz84_0
        try clear hfz84_1
        try clear hfz89_0
        try clear hfz89_1
        try clear hfz89_2
        try clear hfz93_0
        try clear hfz93_1
        try clear hfz95_0
        try clear hfz95_1
        try clear hfz95_2
        try clear hfz96_0
        try clear hfz96_1
        try clear hfz97_0
        try clear hfz97_1
        try clear p2
        try clear p6
        try clear p64
        obtain ⟨kq, x153_98, rfl, HA, HJ98, HO_473001, HO_473002, HO_485001, HO_485002, BK460, BK471, BK472, BK483, BK484, HB⟩ := hcut
        cases kq with
        | zero => exact absurd HA.out (by simp [laws_FnSeals.j2])
        | succ kj98 =>
         have H := HA.out; clear HA; simp only [laws_FnSeals.j2] at H
         by_cases c102 : x153_98 = true
         ·subst c102
          have H1 : (some false) = some r := by rw [if_pos rfl] at H; exact H
          clear H; have H := H1; clear H1
          as_aux_lemma =>
           exact absurd ((yM H).trans hr_.out) (by decide)
         ·replace c102 := yO c102
          subst c102; have H1 : ((spec_DrawCheckSeal.f kj98 l1).bind fun bt498 => ((impl_CheckSeal.f kj98 bt498.1 bt498.2.1 bt498.2.2.1 bt498.2.2.2.1 bt498.2.2.2.2).bind fun bt508 => ((spec_CheckSeal.f kj98 bt498.1 bt498.2.1 bt498.2.2.1 bt498.2.2.2.1 bt498.2.2.2.2).bind fun bt510 => (if (bt508.2 == bt510.2) = true then (some (bt508.1 == bt510.1)) else (some false))))) = some r := by rw [if_neg (show ¬ (false = true) by decide)] at H; exact H
          clear H; have H := H1; clear H1; replace H := zAF H; obtain ⟨⟨t498, t499, t500, t501, t504⟩, A1030, H⟩ := H; replace H : ((impl_CheckSeal.f kj98 t498 t499 t500 t501 t504).bind fun bt508 => ((spec_CheckSeal.f kj98 t498 t499 t500 t501 t504).bind fun bt510 => (if (bt508.2 == bt510.2) = true then (some (bt508.1 == bt510.1)) else (some false)))) = some r := H; have A103 := zA A1030; clear A1030; replace H := zAF H; obtain ⟨⟨t508, t509⟩, A1040, H⟩ := H; replace H : ((spec_CheckSeal.f kj98 t498 t499 t500 t501 t504).bind fun bt510 => (if (t509 == bt510.2) = true then (some (t508 == bt510.1)) else (some false))) = some r := H; have A104 := zA A1040; clear A1040; replace H := zAF H; obtain ⟨⟨t510, t511⟩, A1050, H⟩ := H; replace H : (if (t509 == t511) = true then (some (t508 == t510)) else (some false)) = some r := H; have A105 := zA A1050; clear A1050
          by_cases c106 : (t509 == t511) = true
          ·rw [if_pos c106] at H
           have c106b0 : (t509 == t511) = true := c106; (try (have c106b1 : decide (t509 = t511) = true := by simpa using c106)); (try (have c106b2 : (t509 == t511) = true := by simpa using c106)); clear c106
           as_aux_lemma =>
            obtain rfl := yM H; go_wp2_with (first | ((with_reducible refine yB (f := 56) rfl ?_); refine goesL_ (some 156) rfl rfl Try.func56 (by kernel_rfl) rfl #[.slice A1 l1.length c1] rfl (by (try simp only [zAA, zAB, zAC]); first | done | rfl | (simp only [zZ, zY]; rfl)) ?_; (with_reducible refine (spec_DrawCheckSeal.calls kj98 _ _ l1 t498 t499 t500 t501 t504 _ ?side1 ?side2 A103.out).mono ?_); (case side1 => repeat (first | exact (yN HR1.out HB.out) | (with_reducible first | refine zT ?_ _ | refine zU ?_ _ | refine zV ?_))); (case side2 => exact HC1.out); rintro e w107 ⟨v502, v505, rfl, ho0, ho1, hb⟩; refine ⟨_, rfl, ?_⟩; have n0_ := zA (yC (Kd.R_told (Kd.R_told (Kd.R_old (by (with_reducible repeat first | apply zQ | apply zR | apply zS); exact HO_473001.out) hb) (Kd.R_base ho0)) (Kd.R_base ho1)) (fun _ h_ => h_.1)); have n1_ := zA (yC (Kd.R_told (Kd.R_told (Kd.R_old (by (with_reducible repeat first | apply zQ | apply zR | apply zS); exact HO_473002.out) hb) (Kd.R_base ho0)) (Kd.R_base ho1)) (fun _ h_ => h_.1)); have n2_ := zA (yC (Kd.R_told (Kd.R_told (Kd.R_old (by (with_reducible repeat first | apply zQ | apply zR | apply zS); exact HO_485001.out) hb) (Kd.R_base ho0)) (Kd.R_base ho1)) (fun _ h_ => h_.1)); have n3_ := zA (yC (Kd.R_told (Kd.R_told (Kd.R_old (by (with_reducible repeat first | apply zQ | apply zR | apply zS); exact HO_485002.out) hb) (Kd.R_base ho0)) (Kd.R_base ho1)) (fun _ h_ => h_.1)); have n4_ := zA (Kd.R_lower (yK (yK (yK (yK ho0 (Kd.R_lt (by (with_reducible repeat first | apply zQ | apply zR | apply zS); exact HO_473001.out))) (Kd.R_lt (by (with_reducible repeat first | apply zQ | apply zR | apply zS); exact HO_473002.out))) (Kd.R_lt (by (with_reducible repeat first | apply zQ | apply zR | apply zS); exact HO_485001.out))) (Kd.R_lt (by (with_reducible repeat first | apply zQ | apply zR | apply zS); exact HO_485002.out))) (zAE (by repeat (first | (with_reducible first | exact HB.out | apply zH | apply zF | apply zG | refine zI ?_ GE460.out | refine zI ?_ GE471.out | refine zI ?_ GE472.out | refine zI ?_ GE483.out | refine zI ?_ GE484.out) | exact HB.out)))); have n5_ := zA (Kd.R_lower (yK (yK (yK (yK ho1 (Kd.R_lt (by (with_reducible repeat first | apply zQ | apply zR | apply zS); exact HO_473001.out))) (Kd.R_lt (by (with_reducible repeat first | apply zQ | apply zR | apply zS); exact HO_473002.out))) (Kd.R_lt (by (with_reducible repeat first | apply zQ | apply zR | apply zS); exact HO_485001.out))) (Kd.R_lt (by (with_reducible repeat first | apply zQ | apply zR | apply zS); exact HO_485002.out))) (zAE (by repeat (first | (with_reducible first | exact HB.out | apply zH | apply zF | apply zG | refine zI ?_ GE460.out | refine zI ?_ GE471.out | refine zI ?_ GE472.out | refine zI ?_ GE483.out | refine zI ?_ GE484.out) | exact HB.out)))); have n6_ := zA (yE (g := gb460) (o := .cells #[.string t100, .int .i64 t458] 71 (0, 0)) (by (with_reducible repeat (first | refine zL ?_ _ | refine zN ?_ | refine zM ?_ _)); exact BK460.out) hb); have n7_ := zA (yE (g := gb471) (o := .cells #[.string t461, .int .i64 t462] 71 (0, 0)) (by (with_reducible repeat (first | refine zL ?_ _ | refine zN ?_ | refine zM ?_ _)); exact BK471.out) hb); have n8_ := zA (yE (g := gb472) (o := .cells #[.int .i64 t463, .slice Ao21 t464.length co21, .slice Ao22 t467.length co22] 75 (0, 0)) (by (with_reducible repeat (first | refine zL ?_ _ | refine zN ?_ | refine zM ?_ _)); exact BK472.out) hb); have n9_ := zA (yE (g := gb483) (o := .cells #[.string t473, .int .i64 t474] 71 (0, 0)) (by (with_reducible repeat (first | refine zL ?_ _ | refine zN ?_ | refine zM ?_ _)); exact BK483.out) hb); have n10_ := zA (yE (g := gb484) (o := .cells #[.int .i64 t475, .slice Ao36 t476.length co36, .slice Ao37 t479.length co37] 75 (0, 0)) (by (with_reducible repeat (first | refine zL ?_ _ | refine zN ?_ | refine zM ?_ _)); exact BK484.out) hb); have n11_ := zA (zAD (by repeat (first | (with_reducible first | exact HB.out | apply zH | apply zF | apply zG | refine zI ?_ GE460.out | refine zI ?_ GE471.out | refine zI ?_ GE472.out | refine zI ?_ GE483.out | refine zI ?_ GE484.out) | exact HB.out)) hb); clear HO_473001; clear HO_473002; clear HO_485001; clear HO_485002; clear BK460; clear BK471; clear BK472; clear BK483; clear BK484; clear HB; have HO_473001 := n0_; have HO_473002 := n1_; have HO_485001 := n2_; have HO_485002 := n3_; have HO503 := n4_; have HO506 := n5_; have BK460 := n6_; have BK471 := n7_; have BK472 := n8_; have BK483 := n9_; have BK484 := n10_; have HB := n11_; clear n0_ n1_ n2_ n3_ n4_ n5_ n6_ n7_ n8_ n9_ n10_ n11_; (try clear hb); (try clear ho0); (try clear ho1)) | ((with_reducible refine gate_dst (N := 25) rfl ?_); refine box_event ?hg (N := 25) ?hd (cs := #[.int .i64 0, .slice none 0 0, .slice none 0 0]) (t := 75) ?hr ?_; (case hd => rfl); (case hg => rfl); (case hr => first | (go_simp; done) | (go_simp; rfl)); intro gb507 hg w108 hbox hb; have n0_ := zA (Kd.R_below (by (with_reducible repeat first | apply zQ | apply zR | apply zS); exact HO_473001.out) hb); have n1_ := zA (Kd.R_below (by (with_reducible repeat first | apply zQ | apply zR | apply zS); exact HO_473002.out) hb); have n2_ := zA (Kd.R_below (by (with_reducible repeat first | apply zQ | apply zR | apply zS); exact HO_485001.out) hb); have n3_ := zA (Kd.R_below (by (with_reducible repeat first | apply zQ | apply zR | apply zS); exact HO_485002.out) hb); have n4_ := zA (Kd.R_below (by (with_reducible repeat first | apply zQ | apply zR | apply zS); exact HO503.out) hb); have n5_ := zA (Kd.R_below (by (with_reducible repeat first | apply zQ | apply zR | apply zS); exact HO506.out) hb); have n6_ := zA (yE (g := gb460) (o := .cells #[.string t100, .int .i64 t458] 71 (0, 0)) (by (with_reducible repeat (first | refine zL ?_ _ | refine zN ?_ | refine zM ?_ _)); exact BK460.out) hb); have n7_ := zA (yE (g := gb471) (o := .cells #[.string t461, .int .i64 t462] 71 (0, 0)) (by (with_reducible repeat (first | refine zL ?_ _ | refine zN ?_ | refine zM ?_ _)); exact BK471.out) hb); have n8_ := zA (yE (g := gb472) (o := .cells #[.int .i64 t463, .slice Ao21 t464.length co21, .slice Ao22 t467.length co22] 75 (0, 0)) (by (with_reducible repeat (first | refine zL ?_ _ | refine zN ?_ | refine zM ?_ _)); exact BK472.out) hb); have n9_ := zA (yE (g := gb483) (o := .cells #[.string t473, .int .i64 t474] 71 (0, 0)) (by (with_reducible repeat (first | refine zL ?_ _ | refine zN ?_ | refine zM ?_ _)); exact BK483.out) hb); have n10_ := zA (yE (g := gb484) (o := .cells #[.int .i64 t475, .slice Ao36 t476.length co36, .slice Ao37 t479.length co37] 75 (0, 0)) (by (with_reducible repeat (first | refine zL ?_ _ | refine zN ?_ | refine zM ?_ _)); exact BK484.out) hb); have n11_ := zA (zAD (by repeat (first | (with_reducible first | exact HB.out | apply zH | apply zF | apply zG | refine zI ?_ GE460.out | refine zI ?_ GE471.out | refine zI ?_ GE472.out | refine zI ?_ GE483.out | refine zI ?_ GE484.out) | exact HB.out)) hb); have n12_ := zA (hbox); have n13_ := zA ((by rw [hg]; exact (zAE (by repeat (first | (with_reducible first | exact HB.out | apply zH | apply zF | apply zG | refine zI ?_ GE460.out | refine zI ?_ GE471.out | refine zI ?_ GE472.out | refine zI ?_ GE483.out | refine zI ?_ GE484.out) | exact HB.out))) : w.heap.size ≤ gb507)); have n14_ := zA ((by rw [hg]; exact (zAE (by repeat (first | (with_reducible first | exact HB.out | apply zH | apply zF | apply zG | refine zI ?_ GE460.out | refine zI ?_ GE471.out | refine zI ?_ GE472.out | refine zI ?_ GE483.out | refine zI ?_ GE484.out) | exact HB.out))) : w.heap.size ≤ gb507)); have n15_ := zA ((by rw [hg]; exact zK (blk_lt (g := gb460) (o := .cells #[.string t100, .int .i64 t458] 71 (0, 0)) (by (with_reducible repeat (first | refine zL ?_ _ | refine zN ?_ | refine zM ?_ _)); exact BK460.out)) : gb460 ≠ gb507)); have n16_ := zA ((by rw [hg]; exact Nat.ne_of_gt (blk_lt (g := gb460) (o := .cells #[.string t100, .int .i64 t458] 71 (0, 0)) (by (with_reducible repeat (first | refine zL ?_ _ | refine zN ?_ | refine zM ?_ _)); exact BK460.out)) : gb507 ≠ gb460)); have n17_ := zA ((by rw [hg]; exact zK (blk_lt (g := gb471) (o := .cells #[.string t461, .int .i64 t462] 71 (0, 0)) (by (with_reducible repeat (first | refine zL ?_ _ | refine zN ?_ | refine zM ?_ _)); exact BK471.out)) : gb471 ≠ gb507)); have n18_ := zA ((by rw [hg]; exact Nat.ne_of_gt (blk_lt (g := gb471) (o := .cells #[.string t461, .int .i64 t462] 71 (0, 0)) (by (with_reducible repeat (first | refine zL ?_ _ | refine zN ?_ | refine zM ?_ _)); exact BK471.out)) : gb507 ≠ gb471)); have n19_ := zA ((by rw [hg]; exact zK (blk_lt (g := gb472) (o := .cells #[.int .i64 t463, .slice Ao21 t464.length co21, .slice Ao22 t467.length co22] 75 (0, 0)) (by (with_reducible repeat (first | refine zL ?_ _ | refine zN ?_ | refine zM ?_ _)); exact BK472.out)) : gb472 ≠ gb507)); have n20_ := zA ((by rw [hg]; exact Nat.ne_of_gt (blk_lt (g := gb472) (o := .cells #[.int .i64 t463, .slice Ao21 t464.length co21, .slice Ao22 t467.length co22] 75 (0, 0)) (by (with_reducible repeat (first | refine zL ?_ _ | refine zN ?_ | refine zM ?_ _)); exact BK472.out)) : gb507 ≠ gb472)); have n21_ := zA ((by rw [hg]; exact zK (blk_lt (g := gb483) (o := .cells #[.string t473, .int .i64 t474] 71 (0, 0)) (by (with_reducible repeat (first | refine zL ?_ _ | refine zN ?_ | refine zM ?_ _)); exact BK483.out)) : gb483 ≠ gb507)); have n22_ := zA ((by rw [hg]; exact Nat.ne_of_gt (blk_lt (g := gb483) (o := .cells #[.string t473, .int .i64 t474] 71 (0, 0)) (by (with_reducible repeat (first | refine zL ?_ _ | refine zN ?_ | refine zM ?_ _)); exact BK483.out)) : gb507 ≠ gb483)); have n23_ := zA ((by rw [hg]; exact zK (blk_lt (g := gb484) (o := .cells #[.int .i64 t475, .slice Ao36 t476.length co36, .slice Ao37 t479.length co37] 75 (0, 0)) (by (with_reducible repeat (first | refine zL ?_ _ | refine zN ?_ | refine zM ?_ _)); exact BK484.out)) : gb484 ≠ gb507)); have n24_ := zA ((by rw [hg]; exact Nat.ne_of_gt (blk_lt (g := gb484) (o := .cells #[.int .i64 t475, .slice Ao36 t476.length co36, .slice Ao37 t479.length co37] 75 (0, 0)) (by (with_reducible repeat (first | refine zL ?_ _ | refine zN ?_ | refine zM ?_ _)); exact BK484.out)) : gb507 ≠ gb484)); clear HO_473001; clear HO_473002; clear HO_485001; clear HO_485002; clear HO503; clear HO506; clear BK460; clear BK471; clear BK472; clear BK483; clear BK484; clear HB; have HO_473001 := n0_; have HO_473002 := n1_; have HO_485001 := n2_; have HO_485002 := n3_; have HO503 := n4_; have HO506 := n5_; have BK460 := n6_; have BK471 := n7_; have BK472 := n8_; have BK483 := n9_; have BK484 := n10_; have HB := n11_; have BK507 := n12_; have GW507 := n13_; have GE507 := n14_; have NB460_507 := n15_; have NB507_460 := n16_; have NB471_507 := n17_; have NB507_471 := n18_; have NB472_507 := n19_; have NB507_472 := n20_; have NB483_507 := n21_; have NB507_483 := n22_; have NB484_507 := n23_; have NB507_484 := n24_; clear n0_ n1_ n2_ n3_ n4_ n5_ n6_ n7_ n8_ n9_ n10_ n11_ n12_ n13_ n14_ n15_ n16_ n17_ n18_ n19_ n20_ n21_ n22_ n23_ n24_; clear hb hbox hg; have hnb109 := NB507_460.out; have hnc109 := NB460_507.out; have hnb110 := NB507_471.out; have hnc110 := NB471_507.out; have hnb111 := NB507_472.out; have hnc111 := NB472_507.out; have hnb112 := NB507_483.out; have hnc112 := NB483_507.out; have hnb113 := NB507_484.out; have hnc113 := NB484_507.out; have hcz114_0 := yL BK507.out 0 (.int .i64 0) rfl; have hcz114_1 := yL BK507.out 1 (.slice none 0 0) rfl; have hcz114_2 := yL BK507.out 2 (.slice none 0 0) rfl; have hfz114_0 := zO BK507.out 0; have hfz114_1 := zO BK507.out 1; have hfz114_2 := zO BK507.out 2; obtain ⟨Ao115, co115, eo115⟩ := Kd.R_slice HO503.out; subst eo115; obtain ⟨Ao116, co116, eo116⟩ := Kd.R_slice HO506.out; subst eo116) | ((with_reducible refine yB (f := 55) rfl ?_); refine goesL_ (some 164) rfl rfl Try.func55 (by kernel_rfl) rfl #[.string t498, .string t499, .agg #[.int .i64 t500, .slice Ao115 t501.length co115, .slice Ao116 t504.length co116]] rfl (by (try simp only [zAA, zAB, zAC]); first | done | rfl | (simp only [zZ, zY]; rfl)) ?_; (with_reducible refine (impl_CheckSeal.calls kj98 t498 t499 t500 _ _ t501 _ _ t504 t508 t509 _ ?side1 ?side2 ?side3 ?side4 A104.out).mono ?_); (case side1 => refine (yD (e := 9) (base := w.heap.size) (ok := fun k_ => ((((some k_ ≠ (.slice Ao116 t504.length co116 : Value).ownBlock ∧ some k_ ≠ (.slice Ao21 t464.length co21 : Value).ownBlock) ∧ some k_ ≠ (.slice Ao22 t467.length co22 : Value).ownBlock) ∧ some k_ ≠ (.slice Ao36 t476.length co36 : Value).ownBlock) ∧ some k_ ≠ (.slice Ao37 t479.length co37 : Value).ownBlock)) (n := t501.length) (c := co115) ?_).2.2; exact (by (with_reducible repeat first | apply zQ | apply zR | apply zS); exact (yC (Kd.R_far (p := ⟨gb507, 2, none⟩) (Kd.R_far (p := ⟨gb507, 1, none⟩) (Kd.R_far (p := ⟨gb507, 0, none⟩) (Kd.R_types HO503.out BK507.out (by decide)) (fun _ hk => hk.2) (.int .i64 t500)) (fun _ hk => hk.2) (.slice Ao115 t501.length co115)) (fun _ hk => hk.2) (.slice Ao116 t504.length co116)) (fun _ h_ => h_.1)))); (case side2 => exact (yD HO503.out).2.1); (case side3 => refine (yD (e := 9) (base := w.heap.size) (ok := fun k_ => ((((some k_ ≠ (.slice Ao115 t501.length co115 : Value).ownBlock ∧ some k_ ≠ (.slice Ao21 t464.length co21 : Value).ownBlock) ∧ some k_ ≠ (.slice Ao22 t467.length co22 : Value).ownBlock) ∧ some k_ ≠ (.slice Ao36 t476.length co36 : Value).ownBlock) ∧ some k_ ≠ (.slice Ao37 t479.length co37 : Value).ownBlock)) (n := t504.length) (c := co116) ?_).2.2; exact (by (with_reducible repeat first | apply zQ | apply zR | apply zS); exact (yC (Kd.R_far (p := ⟨gb507, 2, none⟩) (Kd.R_far (p := ⟨gb507, 1, none⟩) (Kd.R_far (p := ⟨gb507, 0, none⟩) (Kd.R_types HO506.out BK507.out (by decide)) (fun _ hk => hk.2) (.int .i64 t500)) (fun _ hk => hk.2) (.slice Ao115 t501.length co115)) (fun _ hk => hk.2) (.slice Ao116 t504.length co116)) (fun _ h_ => h_.1)))); (case side4 => exact (yD HO506.out).2.1); rintro e w117 ⟨rfl, hb⟩; refine ⟨_, rfl, ?_⟩; have n0_ := zA (Kd.R_below (by (with_reducible repeat first | apply zQ | apply zR | apply zS); exact (yC (Kd.R_far (p := ⟨gb507, 2, none⟩) (Kd.R_far (p := ⟨gb507, 1, none⟩) (Kd.R_far (p := ⟨gb507, 0, none⟩) (Kd.R_types HO_473001.out BK507.out (by decide)) (fun _ hk => hk.2) (.int .i64 t500)) (fun _ hk => hk.2) (.slice Ao115 t501.length co115)) (fun _ hk => hk.2) (.slice Ao116 t504.length co116)) (fun _ h_ => h_.1))) hb); have n1_ := zA (Kd.R_below (by (with_reducible repeat first | apply zQ | apply zR | apply zS); exact (yC (Kd.R_far (p := ⟨gb507, 2, none⟩) (Kd.R_far (p := ⟨gb507, 1, none⟩) (Kd.R_far (p := ⟨gb507, 0, none⟩) (Kd.R_types HO_473002.out BK507.out (by decide)) (fun _ hk => hk.2) (.int .i64 t500)) (fun _ hk => hk.2) (.slice Ao115 t501.length co115)) (fun _ hk => hk.2) (.slice Ao116 t504.length co116)) (fun _ h_ => h_.1))) hb); have n2_ := zA (Kd.R_below (by (with_reducible repeat first | apply zQ | apply zR | apply zS); exact (yC (Kd.R_far (p := ⟨gb507, 2, none⟩) (Kd.R_far (p := ⟨gb507, 1, none⟩) (Kd.R_far (p := ⟨gb507, 0, none⟩) (Kd.R_types HO_485001.out BK507.out (by decide)) (fun _ hk => hk.2) (.int .i64 t500)) (fun _ hk => hk.2) (.slice Ao115 t501.length co115)) (fun _ hk => hk.2) (.slice Ao116 t504.length co116)) (fun _ h_ => h_.1))) hb); have n3_ := zA (Kd.R_below (by (with_reducible repeat first | apply zQ | apply zR | apply zS); exact (yC (Kd.R_far (p := ⟨gb507, 2, none⟩) (Kd.R_far (p := ⟨gb507, 1, none⟩) (Kd.R_far (p := ⟨gb507, 0, none⟩) (Kd.R_types HO_485002.out BK507.out (by decide)) (fun _ hk => hk.2) (.int .i64 t500)) (fun _ hk => hk.2) (.slice Ao115 t501.length co115)) (fun _ hk => hk.2) (.slice Ao116 t504.length co116)) (fun _ h_ => h_.1))) hb); have n4_ := zA (Kd.R_below (by (with_reducible repeat first | apply zQ | apply zR | apply zS); exact (yC (Kd.R_far (p := ⟨gb507, 2, none⟩) (Kd.R_far (p := ⟨gb507, 1, none⟩) (Kd.R_far (p := ⟨gb507, 0, none⟩) (Kd.R_types HO503.out BK507.out (by decide)) (fun _ hk => hk.2) (.int .i64 t500)) (fun _ hk => hk.2) (.slice Ao115 t501.length co115)) (fun _ hk => hk.2) (.slice Ao116 t504.length co116)) (fun _ h_ => h_.1))) hb); have n5_ := zA (Kd.R_below (by (with_reducible repeat first | apply zQ | apply zR | apply zS); exact (yC (Kd.R_far (p := ⟨gb507, 2, none⟩) (Kd.R_far (p := ⟨gb507, 1, none⟩) (Kd.R_far (p := ⟨gb507, 0, none⟩) (Kd.R_types HO506.out BK507.out (by decide)) (fun _ hk => hk.2) (.int .i64 t500)) (fun _ hk => hk.2) (.slice Ao115 t501.length co115)) (fun _ hk => hk.2) (.slice Ao116 t504.length co116)) (fun _ h_ => h_.1))) hb); have n6_ := zA (yE (g := gb460) (o := .cells #[.string t100, .int .i64 t458] 71 (0, 0)) (by (with_reducible repeat (first | refine zL ?_ _ | refine zN ?_ | refine zM ?_ _)); refine blk_far ?_ NB460_507.out _; (with_reducible repeat (first | refine zL ?_ _ | refine zN ?_ | refine zM ?_ _)); refine blk_far ?_ NB460_507.out _; (with_reducible repeat (first | refine zL ?_ _ | refine zN ?_ | refine zM ?_ _)); refine blk_far ?_ NB460_507.out _; (with_reducible repeat (first | refine zL ?_ _ | refine zN ?_ | refine zM ?_ _)); exact BK460.out) hb); have n7_ := zA (yE (g := gb471) (o := .cells #[.string t461, .int .i64 t462] 71 (0, 0)) (by (with_reducible repeat (first | refine zL ?_ _ | refine zN ?_ | refine zM ?_ _)); refine blk_far ?_ NB471_507.out _; (with_reducible repeat (first | refine zL ?_ _ | refine zN ?_ | refine zM ?_ _)); refine blk_far ?_ NB471_507.out _; (with_reducible repeat (first | refine zL ?_ _ | refine zN ?_ | refine zM ?_ _)); refine blk_far ?_ NB471_507.out _; (with_reducible repeat (first | refine zL ?_ _ | refine zN ?_ | refine zM ?_ _)); exact BK471.out) hb); have n8_ := zA (yE (g := gb472) (o := .cells #[.int .i64 t463, .slice Ao21 t464.length co21, .slice Ao22 t467.length co22] 75 (0, 0)) (by (with_reducible repeat (first | refine zL ?_ _ | refine zN ?_ | refine zM ?_ _)); refine blk_far ?_ NB472_507.out _; (with_reducible repeat (first | refine zL ?_ _ | refine zN ?_ | refine zM ?_ _)); refine blk_far ?_ NB472_507.out _; (with_reducible repeat (first | refine zL ?_ _ | refine zN ?_ | refine zM ?_ _)); refine blk_far ?_ NB472_507.out _; (with_reducible repeat (first | refine zL ?_ _ | refine zN ?_ | refine zM ?_ _)); exact BK472.out) hb); have n9_ := zA (yE (g := gb483) (o := .cells #[.string t473, .int .i64 t474] 71 (0, 0)) (by (with_reducible repeat (first | refine zL ?_ _ | refine zN ?_ | refine zM ?_ _)); refine blk_far ?_ NB483_507.out _; (with_reducible repeat (first | refine zL ?_ _ | refine zN ?_ | refine zM ?_ _)); refine blk_far ?_ NB483_507.out _; (with_reducible repeat (first | refine zL ?_ _ | refine zN ?_ | refine zM ?_ _)); refine blk_far ?_ NB483_507.out _; (with_reducible repeat (first | refine zL ?_ _ | refine zN ?_ | refine zM ?_ _)); exact BK483.out) hb); have n10_ := zA (yE (g := gb484) (o := .cells #[.int .i64 t475, .slice Ao36 t476.length co36, .slice Ao37 t479.length co37] 75 (0, 0)) (by (with_reducible repeat (first | refine zL ?_ _ | refine zN ?_ | refine zM ?_ _)); refine blk_far ?_ NB484_507.out _; (with_reducible repeat (first | refine zL ?_ _ | refine zN ?_ | refine zM ?_ _)); refine blk_far ?_ NB484_507.out _; (with_reducible repeat (first | refine zL ?_ _ | refine zN ?_ | refine zM ?_ _)); refine blk_far ?_ NB484_507.out _; (with_reducible repeat (first | refine zL ?_ _ | refine zN ?_ | refine zM ?_ _)); exact BK484.out) hb); have n11_ := zA (yE (g := gb507) (o := .cells #[.int .i64 t500, .slice Ao115 t501.length co115, .slice Ao116 t504.length co116] 75 (0, 0)) (by (with_reducible repeat (first | refine zL ?_ _ | refine zN ?_ | refine zM ?_ _)); refine blk_put (cs := #[.int .i64 t500, .slice Ao115 t501.length co115, .slice none 0 0]) ?_ 2 _ rfl; (with_reducible repeat (first | refine zL ?_ _ | refine zN ?_ | refine zM ?_ _)); refine blk_put (cs := #[.int .i64 t500, .slice none 0 0, .slice none 0 0]) ?_ 1 _ rfl; (with_reducible repeat (first | refine zL ?_ _ | refine zN ?_ | refine zM ?_ _)); refine blk_put (cs := #[.int .i64 0, .slice none 0 0, .slice none 0 0]) ?_ 0 _ rfl; (with_reducible repeat (first | refine zL ?_ _ | refine zN ?_ | refine zM ?_ _)); exact BK507.out) hb); have n12_ := zA (zAD (by repeat (first | (with_reducible first | exact HB.out | apply zH | apply zF | apply zG | refine zI ?_ GE460.out | refine zI ?_ GE471.out | refine zI ?_ GE472.out | refine zI ?_ GE483.out | refine zI ?_ GE484.out | refine zI ?_ GE507.out) | exact HB.out)) hb); clear HO_473001; clear HO_473002; clear HO_485001; clear HO_485002; clear HO503; clear HO506; clear BK460; clear BK471; clear BK472; clear BK483; clear BK484; clear BK507; clear HB; have HO_473001 := n0_; have HO_473002 := n1_; have HO_485001 := n2_; have HO_485002 := n3_; have HO503 := n4_; have HO506 := n5_; have BK460 := n6_; have BK471 := n7_; have BK472 := n8_; have BK483 := n9_; have BK484 := n10_; have BK507 := n11_; have HB := n12_; clear n0_ n1_ n2_ n3_ n4_ n5_ n6_ n7_ n8_ n9_ n10_ n11_ n12_; (try clear hb); (try clear hk); have hcz118_0 := yL BK507.out 0 (.int .i64 t500) rfl; have hcz118_1 := yL BK507.out 1 (.slice Ao115 t501.length co115) rfl; have hcz118_2 := yL BK507.out 2 (.slice Ao116 t504.length co116) rfl; have hfz118_0 := zO BK507.out 0; have hfz118_1 := zO BK507.out 1; have hfz118_2 := zO BK507.out 2) | ((with_reducible refine yB (f := 57) rfl ?_); refine goesL_ (some 171) rfl rfl Try.func57 (by kernel_rfl) rfl #[.string t498, .string t499, .agg #[.int .i64 t500, .slice Ao115 t501.length co115, .slice Ao116 t504.length co116]] rfl (by (try simp only [zAA, zAB, zAC]); first | done | rfl | (simp only [zZ, zY]; rfl)) ?_; (with_reducible refine (spec_CheckSeal.calls kj98 t498 t499 t500 _ _ t501 _ _ t504 t510 t511 _ ?side1 ?side2 ?side3 ?side4 A105.out).mono ?_); (case side1 => repeat (first | exact (yD HO503.out).2.2 | (with_reducible first | refine zT ?_ _ | refine zU ?_ _ | refine zV ?_))); (case side2 => exact (yD HO503.out).2.1); (case side3 => repeat (first | exact (yD HO506.out).2.2 | (with_reducible first | refine zT ?_ _ | refine zU ?_ _ | refine zV ?_))); (case side4 => exact (yD HO506.out).2.1); rintro e w119 ⟨rfl, hb⟩; refine ⟨_, rfl, ?_⟩; have n0_ := zA (Kd.R_below (by (with_reducible repeat first | apply zQ | apply zR | apply zS); exact HO_473001.out) hb); have n1_ := zA (Kd.R_below (by (with_reducible repeat first | apply zQ | apply zR | apply zS); exact HO_473002.out) hb); have n2_ := zA (Kd.R_below (by (with_reducible repeat first | apply zQ | apply zR | apply zS); exact HO_485001.out) hb); have n3_ := zA (Kd.R_below (by (with_reducible repeat first | apply zQ | apply zR | apply zS); exact HO_485002.out) hb); have n4_ := zA (Kd.R_below (by (with_reducible repeat first | apply zQ | apply zR | apply zS); exact HO503.out) hb); have n5_ := zA (Kd.R_below (by (with_reducible repeat first | apply zQ | apply zR | apply zS); exact HO506.out) hb); have n6_ := zA (yE (g := gb460) (o := .cells #[.string t100, .int .i64 t458] 71 (0, 0)) (by (with_reducible repeat (first | refine zL ?_ _ | refine zN ?_ | refine zM ?_ _)); exact BK460.out) hb); have n7_ := zA (yE (g := gb471) (o := .cells #[.string t461, .int .i64 t462] 71 (0, 0)) (by (with_reducible repeat (first | refine zL ?_ _ | refine zN ?_ | refine zM ?_ _)); exact BK471.out) hb); have n8_ := zA (yE (g := gb472) (o := .cells #[.int .i64 t463, .slice Ao21 t464.length co21, .slice Ao22 t467.length co22] 75 (0, 0)) (by (with_reducible repeat (first | refine zL ?_ _ | refine zN ?_ | refine zM ?_ _)); exact BK472.out) hb); have n9_ := zA (yE (g := gb483) (o := .cells #[.string t473, .int .i64 t474] 71 (0, 0)) (by (with_reducible repeat (first | refine zL ?_ _ | refine zN ?_ | refine zM ?_ _)); exact BK483.out) hb); have n10_ := zA (yE (g := gb484) (o := .cells #[.int .i64 t475, .slice Ao36 t476.length co36, .slice Ao37 t479.length co37] 75 (0, 0)) (by (with_reducible repeat (first | refine zL ?_ _ | refine zN ?_ | refine zM ?_ _)); exact BK484.out) hb); have n11_ := zA (yE (g := gb507) (o := .cells #[.int .i64 t500, .slice Ao115 t501.length co115, .slice Ao116 t504.length co116] 75 (0, 0)) (by (with_reducible repeat (first | refine zL ?_ _ | refine zN ?_ | refine zM ?_ _)); exact BK507.out) hb); have n12_ := zA (zAD (by repeat (first | (with_reducible first | exact HB.out | apply zH | apply zF | apply zG | refine zI ?_ GE460.out | refine zI ?_ GE471.out | refine zI ?_ GE472.out | refine zI ?_ GE483.out | refine zI ?_ GE484.out | refine zI ?_ GE507.out) | exact HB.out)) hb); clear HO_473001; clear HO_473002; clear HO_485001; clear HO_485002; clear HO503; clear HO506; clear BK460; clear BK471; clear BK472; clear BK483; clear BK484; clear BK507; clear HB; have HO_473001 := n0_; have HO_473002 := n1_; have HO_485001 := n2_; have HO_485002 := n3_; have HO503 := n4_; have HO506 := n5_; have BK460 := n6_; have BK471 := n7_; have BK472 := n8_; have BK483 := n9_; have BK484 := n10_; have BK507 := n11_; have HB := n12_; clear n0_ n1_ n2_ n3_ n4_ n5_ n6_ n7_ n8_ n9_ n10_ n11_ n12_; (try clear hb)))
            go_ret; exact ⟨by first | rfl | (simp <;> rfl) | (simp [*] <;> rfl), by repeat (first | (with_reducible first | exact HB.out | apply zH | apply zF | apply zG | refine zI ?_ GE460.out | refine zI ?_ GE471.out | refine zI ?_ GE472.out | refine zI ?_ GE483.out | refine zI ?_ GE484.out | refine zI ?_ GE507.out) | exact HB.out)⟩
          ·rw [if_neg c106] at H
           have c106b0 : (t509 == t511) = false := by simpa using c106
           (try (have c106b1 : decide (t509 = t511) = false := by simpa using c106)); (try (have c106b2 : (t509 == t511) = false := by simpa using c106)); (try (have c106b3 : ¬ (t509 = t511) := by simpa using c106)); clear c106
           as_aux_lemma =>
            exact absurd ((yM H).trans hr_.out) (by decide)
def laws_FnSeals.Pure : Prop := ∀ (l0 : List Int) (l1 : List Int), l0.length ≤ maxLen → l0.length * 1 ≤ 140737488351232 → (∀ x ∈ l0, (Lit.int .u8 x).wf = true) → l1.length ≤ maxLen → l1.length * 1 ≤ 140737488351232 → (∀ x ∈ l1, (Lit.int .u8 x).wf = true) → ∃ k, laws_FnSeals.f k l0 l1 = some true
theorem laws_FnSeals.walk (P : laws_FnSeals.Pure) (a0 : Option Addr) (len0 cap0 : Nat) (z0 : List Int) (a1 : Option Addr) (len1 cap1 : Nat) (z1 : List Int) (w : World) (w0 : (a0 = none ∧ len0 = 0 ∧ cap0 = 0 ∧ z0 = []) ∨ ∃ x, a0 = some x ∧ len0 ≤ cap0 ∧ cap0 ≤ maxLen ∧ z0.length = cap0 ∧ (∀ i, i < z0.length → w.cell? (x.add i) = some (.int .u8 (z0.getD i 0))) ∧ ∀ n ∈ z0, (Lit.int .u8 n).wf = true) (y0 : len0 * 1 ≤ 140737488351232) (w1 : (a1 = none ∧ len1 = 0 ∧ cap1 = 0 ∧ z1 = []) ∨ ∃ x, a1 = some x ∧ len1 ≤ cap1 ∧ cap1 ≤ maxLen ∧ z1.length = cap1 ∧ (∀ i, i < z1.length → w.cell? (x.add i) = some (.int .u8 (z1.getD i 0))) ∧ ∀ n ∈ z1, (Lit.int .u8 n).wf = true) (y1 : len1 * 1 ≤ 140737488351232) :
  Calls Try.prog 6 #[.slice a0 len0 cap0, .slice a1 len1 cap1] w fun e w' => e = .returned (.bool true) ∧ Below w.heap.size w w' := by
 obtain ⟨l0, rfl, hr0, hm0, hw0, hc0⟩ := ReadsInt.ofRowC w0; obtain ⟨l1, rfl, hr1, hm1, hw1, hc1⟩ := ReadsInt.ofRowC w1; obtain ⟨k, h⟩ := P l0 l1 hm0 y0 hw0 hm1 y1 hw1; refine (laws_FnSeals.calls k _ _ l0 _ _ l1 true w (Kd.C_of_reads (d := (0 : Int)) (h1 := fun _ => rfl) hr0) hc0 (Kd.C_of_reads (d := (0 : Int)) (h1 := fun _ => rfl) hr1) hc1 h ⟨rfl⟩).mono ?_; rintro e w' ⟨rfl, hd⟩; exact ⟨rfl, hd⟩
end Go.Proofs.Ythhkkhnjkoacnaa.PA
end
section
namespace Go.Proofs.Ythhkkhnjkoacnaa.PB
open Go.RowKit Go.Proofs.YthhkkhnjkoacnaaW.PrintWords Go.Proofs.YthhkkhnjkoacnaaW.PrintLast Go.Proofs.YthhkkhnjkoacnaaW.PrintMore
set_option linter.unusedVariables false
theorem ev_pos {α : Type} {c : Prop} [Decidable c] {f g : Nat → Option α} {r : α} (hc : c) (h : Ev f r) : Ev (fun k => if c then f k else g k) r := by
 simp only [if_pos hc]; exact h
theorem ev_neg {α : Type} {c : Prop} [Decidable c] {f g : Nat → Option α} {r : α} (hc : ¬ c) (h : Ev g r) : Ev (fun k => if c then f k else g k) r := by
 simp only [if_neg hc]; exact h
theorem ev_bind {α β : Type} {g : Nat → Option α} {f : Nat → α → Option β} {a : α} {r : β} (h : Ev g a) (k : Ev (fun n => f n a) r) : Ev (fun n => (g n).bind (f n)) r := Ev.bind h k
theorem ev_const {α β : Type} {o : Option α} {f : Nat → α → Option β} {a : α} {r : β} (h : o = some a) (k : Ev (fun n => f n a) r) : Ev (fun n => o.bind (f n)) r := by
 subst h; exact k
theorem ev_of_eq {α : Type} {o : Option α} {r : α} (h : o = some r) : Ev (fun _ => o) r := by subst h; exact Ev.now r
theorem ev_eq {α : Type} {f : Nat → Option α} {r r' : α} (h : Ev f r) (e : r = r') : Ev f r' := e ▸ h
theorem w64 {x : Int} (h0 : -9223372036854775808 ≤ x) (h1 : x ≤ 9223372036854775807) : wrap64 x = x := by
 unfold wrap64; omega
theorem ba_ext {a b : ByteArray} (h : a.toList = b.toList) : a = b := by
 rw [ByteArray.toList_eq, ByteArray.toList_eq] at h
 have h' : a.data = b.data := Array.toList_inj.mp h
 cases a; cases b; simp_all
theorem size_toList (s : ByteArray) : s.toList.length = s.size := by rw [ByteArray.toList_eq]; exact data_length s
theorem bt_get (s : ByteArray) (i : Nat) (h : i < s.size) : bt s (i : Int) = ((s.toList.getD i 0).toNat : Int) := by
 rw [ByteArray.toList_eq]
 unfold bt
 rw [dif_pos (by simpa using h)]
 have h' : i < s.data.toList.length := by rw [data_length]; exact h
 simp [List.getD_eq_getElem?_getD, List.getElem?_eq_getElem h']
 rfl
end Go.Proofs.Ythhkkhnjkoacnaa.PB
end
section
namespace Go.Proofs.Ythhkkhnjkoacnaa.PD
open Go.RowKit Go.Proofs.YthhkkhnjkoacnaaW.PrintWords Go.Proofs.YthhkkhnjkoacnaaW.PrintLast Go.Proofs.YthhkkhnjkoacnaaW.PrintMore Go.Proofs.Ythhkkhnjkoacnaa.PB Go.Proofs.Ythhkkhnjkoacnaa.PA
set_option linter.unusedVariables false
def dstep (p : Int × Int) (c : UInt8) : Int × Int := ((p.1 + (c.toNat : Int)) % 65521, (p.2 + (p.1 + (c.toNat : Int)) % 65521) % 65521)
def dfold (p : Int × Int) (l : List UInt8) : Int × Int := l.foldl dstep p
def InP (p : Int × Int) : Prop := 0 ≤ p.1 ∧ p.1 < 65521 ∧ 0 ≤ p.2 ∧ p.2 < 65521
theorem dstep_in {p : Int × Int} {c : UInt8} : InP (dstep p c) := by
 unfold InP dstep; refine ⟨?_, ?_, ?_, ?_⟩ <;> simp only <;> omega
theorem dfold_in {p : Int × Int} (h : InP p) (l : List UInt8) : InP (dfold p l) := by
 induction l generalizing p with
 | nil => exact h
 | cons c l ih => exact ih dstep_in
def four (p : Int × Int) : ByteArray := strOfNums [p.2 / 256 % 256, p.2 % 256, p.1 / 256 % 256, p.1 % 256]
def dig (kind : Int) (s : ByteArray) : ByteArray := four (dfold (kind + 1, kind + 1) s.toList)
theorem four_size (p : Int × Int) : (four p).size = 4 := by unfold four; rw [strOfNums_size]; rfl
theorem dig_size (kind : Int) (s : ByteArray) : (dig kind s).size = 4 := four_size _
theorem drop_at (l : List UInt8) (i : Nat) (h : i < l.length) : l.drop i = l.getD i 0 :: l.drop (i + 1) := by
 rw [List.drop_eq_getElem_cons h]; simp [List.getD_eq_getElem?_getD, List.getElem?_eq_getElem h]
theorem step_arith {A B : Int} {c : Nat} (hA : 0 ≤ A ∧ A < 65521 ∧ 0 ≤ B ∧ B < 65521) (hc : c < 256) :
  Int.tmod (wrap64 (A + wrap64 (c : Int))) 65521 = (A + (c : Int)) % 65521 ∧ Int.tmod (wrap64 (B + (A + (c : Int)) % 65521)) 65521 = (B + (A + (c : Int)) % 65521) % 65521 := by
 have h1 : wrap64 (c : Int) = c := w64 (by omega) (by omega)
 have h2 : wrap64 (A + c) = A + c := w64 (by omega) (by omega)
 have h3 : wrap64 (B + (A + (c : Int)) % 65521) = B + (A + (c : Int)) % 65521 := w64 (by omega) (by omega)
 rw [h1, h2, h3, Int.tmod_eq_emod_of_nonneg (by omega), Int.tmod_eq_emod_of_nonneg (by omega)]
 exact ⟨rfl, rfl⟩
theorem feed_spec (s : ByteArray) (hs : s.size ≤ 1000000000000) (L : Int) (hL : 0 ≤ L ∧ L ≤ 1000000000000) : ∀ (d i : Nat) (A B : Int), i + d = s.size → InP (A, B) →
  Ev (fun k => spec_l1Feed.l0 k s (i : Int) A B L) ((dfold (A, B) (s.toList.drop i)).1, (dfold (A, B) (s.toList.drop i)).2, L + s.size) := by
 intro d
 induction d with
 | zero =>
  intro i A B hi hp
  refine Ev.step (f := fun _ => some (A, B, wrap64 (L + (s.size : Int)))) (fun k => ?_) ?_
  ·simp only [spec_l1Feed.l0]; rw [if_neg (by omega)]
  ·rw [List.drop_eq_nil_of_le (by rw [size_toList]; omega)]
   rw [w64 (by omega) (by omega)]
   exact Ev.now _
 | succ d ih =>
  intro i A B hi hp
  have hlt : i < s.size := by omega
  have hb := bt_get s i hlt
  have hc : (s.toList.getD i 0).toNat < 256 := UInt8.toNat_lt _
  have ha := step_arith (A := A) (B := B) hp hc
  refine Ev.step (f := fun k => spec_l1Feed.l0 k s ((i + 1 : Nat) : Int) (dstep (A, B) (s.toList.getD i 0)).1 (dstep (A, B) (s.toList.getD i 0)).2 L) (fun k => ?_) ?_
  ·simp only [spec_l1Feed.l0]; rw [if_pos (by omega), if_pos (by omega), hb, ha.1, ha.2, w64 (x := (i : Int) + 1) (by omega) (by omega)]
   simp only [dstep]
   congr 1
  ·rw [drop_at _ _ (by rw [size_toList]; exact hlt)]
   exact ih (i + 1) _ _ (by omega) dstep_in
theorem feed_impl (s : ByteArray) (hs : s.size ≤ 1000000000000) (L : Int) (hL : 0 ≤ L ∧ L ≤ 1000000000000) : ∀ (d i : Nat) (A B : Int), i + d = s.size → InP (A, B) →
  Ev (fun k => impl_Mix_feed.l0 k s (s.size : Int) (i : Int) A B L) ((dfold (A, B) (s.toList.drop i)).1, (dfold (A, B) (s.toList.drop i)).2, L + s.size) := by
 intro d
 induction d with
 | zero =>
  intro i A B hi hp
  refine Ev.step (f := fun _ => some (A, B, wrap64 (L + (s.size : Int)))) (fun k => ?_) ?_
  ·simp only [impl_Mix_feed.l0]; rw [if_neg (by omega)]
  ·rw [List.drop_eq_nil_of_le (by rw [size_toList]; omega)]
   rw [w64 (by omega) (by omega)]
   exact Ev.now _
 | succ d ih =>
  intro i A B hi hp
  have hlt : i < s.size := by omega
  have hb := bt_get s i hlt
  have hc : (s.toList.getD i 0).toNat < 256 := UInt8.toNat_lt _
  have ha := step_arith (A := A) (B := B) hp hc
  refine Ev.step (f := fun k => impl_Mix_feed.l0 k s (s.size : Int) ((i + 1 : Nat) : Int) (dstep (A, B) (s.toList.getD i 0)).1 (dstep (A, B) (s.toList.getD i 0)).2 L) (fun k => ?_) ?_
  ·simp only [impl_Mix_feed.l0]; rw [if_pos (by omega), if_pos (by omega), if_pos (by omega), hb, ha.1, ha.2, w64 (x := (i : Int) + 1) (by omega) (by omega)]
   simp only [dstep]
   congr 1
  ·rw [drop_at _ _ (by rw [size_toList]; exact hlt)]
   exact ih (i + 1) _ _ (by omega) dstep_in
def Kd_ (c : Int) : Prop := 97 ≤ c ∧ c ≤ 122
theorem digS (kind : Int) (hk : Kd_ kind) (s : ByteArray) (hs : s.size ≤ 1000000000000) : Ev (fun k => spec_l1Digest.f k kind s) (dig kind s) := by
 obtain ⟨h0, h1⟩ := hk
 have e1 : spec_NewMix.f kind = some (kind + 1, kind + 1, 0, true) := by
  unfold spec_NewMix.f spec_l1Kind.f
  rw [if_pos (by omega)]
  simp only [Option.bind_some, decide_eq_true h1, if_true]
  rw [w64 (x := kind) (by omega) (by omega), w64 (by omega) (by omega), Int.add_comm]
 have hp : InP (kind + 1, kind + 1) := by unfold InP; refine ⟨?_, ?_, ?_, ?_⟩ <;> simp only <;> omega
 obtain ⟨K, h⟩ := feed_spec s hs 0 (by omega) s.size 0 (kind + 1) (kind + 1) (by omega) hp
 refine ⟨K, fun k hk => ?_⟩
 have h' := h k hk
 dsimp only at h'
 rw [show ((0 : Nat) : Int) = 0 from rfl] at h'
 unfold spec_l1Digest.f spec_l1Feed.f spec_l1End.f
 simp only [e1, Option.bind_some]
 rw [h']
 simp only [Option.bind_some, List.drop_zero]
 rfl
theorem digI (kind : Int) (hk : Kd_ kind) (s : ByteArray) (hs : s.size ≤ 1000000000000) : Ev (fun k => impl_digest.f k kind s) (dig kind s) := by
 obtain ⟨h0, h1⟩ := hk
 have e1 : impl_newMix.f kind = some (kind + 1, kind + 1, 0) := by
  unfold impl_newMix.f
  rw [w64 (x := kind) (by omega) (by omega), w64 (by omega) (by omega)]
 have hp : InP (kind + 1, kind + 1) := by unfold InP; refine ⟨?_, ?_, ?_, ?_⟩ <;> simp only <;> omega
 obtain ⟨K, h⟩ := feed_impl s hs 0 (by omega) s.size 0 (kind + 1) (kind + 1) (by omega) hp
 refine ⟨K, fun k hk => ?_⟩
 have h' := h k hk
 dsimp only at h'
 rw [show ((0 : Nat) : Int) = 0 from rfl] at h'
 have hq := dfold_in hp s.toList
 unfold impl_digest.f impl_Mix_feed.f impl_Mix_end.f
 simp only [e1, Option.bind_some]
 rw [h']
 simp only [Option.bind_some, List.drop_zero]
 unfold dig four
 generalize dfold (kind + 1, kind + 1) s.toList = p at hq ⊢
 obtain ⟨q0, q1, q2, q3⟩ := hq
 rw [Int.tdiv_eq_ediv_of_nonneg q2, Int.tdiv_eq_ediv_of_nonneg q0, Int.tmod_eq_emod_of_nonneg q2, Int.tmod_eq_emod_of_nonneg q0, w64 (x := p.2 / 256) (by omega) (by omega), w64 (x := p.1 / 256) (by omega) (by omega)]
 rw [Int.emod_emod_of_dvd p.2 (Int.dvd_refl _), Int.emod_emod_of_dvd p.1 (Int.dvd_refl _)]
def one (n : Int) : ByteArray := strOfNums [n % 256]
theorem one_size (n : Int) : (one n).size = 1 := by unfold one; rw [strOfNums_size]; rfl
theorem oneI (n : Int) : impl_oneByte.f n = some (one n) := rfl
end Go.Proofs.Ythhkkhnjkoacnaa.PD
end
section
namespace Go.Proofs.Ythhkkhnjkoacnaa.PK
open Go.RowKit Go.Proofs.YthhkkhnjkoacnaaW.PrintWords Go.Proofs.YthhkkhnjkoacnaaW.PrintLast Go.Proofs.YthhkkhnjkoacnaaW.PrintMore Go.Proofs.Ythhkkhnjkoacnaa.PB Go.Proofs.Ythhkkhnjkoacnaa.PD Go.Proofs.Ythhkkhnjkoacnaa.PA
set_option linter.unusedVariables false
def chainM (s : ByteArray) (i : Nat) : Nat → ByteArray
 | 0 => s
 | n + 1 => chainM (dig 99 (one (i : Int) ++ s)) (i + 1) n
theorem chainM_size (s : ByteArray) (h : s.size = 4) (n : Nat) : ∀ i, (chainM s i n).size = 4 := by
 induction n generalizing s with
 | zero => intro i; exact h
 | succ n ih => intro i; exact ih _ (dig_size _ _) _
theorem kc : Kd_ 99 := ⟨by decide, by decide⟩
theorem app_size (a b : ByteArray) : (a ++ b).size = a.size + b.size := ByteArray.size_append
theorem chainS0 (a b : Nat) (ha : a + b ≤ 1000) : ∀ (n i : Nat) (s : ByteArray), s.size ≤ 1000000 → i + n = a + b → Ev (fun k => spec_l2Chain.l0 k s (a : Int) (b : Int) (i : Int)) (chainM s i n) := by
 intro n
 induction n with
 | zero =>
  intro i s hs hi
  refine Ev.step (f := fun _ => some s) (fun k => ?_) (Ev.now _)
  simp only [spec_l2Chain.l0]
  rw [w64 (by omega) (by omega), if_neg (by omega)]
 | succ n ih =>
  intro i s hs hi
  refine Ev.step (f := fun k => (spec_l1Digest.f k 99 (one (i : Int) ++ s)).bind fun t => spec_l2Chain.l0 k t (a : Int) (b : Int) ((i + 1 : Nat) : Int)) (fun k => ?_) ?_
  ·simp only [spec_l2Chain.l0]
   rw [w64 (x := (a : Int) + b) (by omega) (by omega), if_pos (by omega)]
   simp only [Option.bind_some]
   rw [if_pos (by rw [strOfNums_size]; simp only [List.length_cons, List.length_nil]; omega), w64 (x := (i : Int) + 1) (by omega) (by omega)]
   rfl
  ·exact ev_bind (digS 99 kc _ (by rw [app_size, one_size]; omega)) (ih (i + 1) _ (by rw [dig_size]; omega) (by omega))
theorem chainS (s : ByteArray) (a b : Nat) (ha : a + b ≤ 1000) (hs : s.size ≤ 1000000) : Ev (fun k => spec_l2Chain.f k s (a : Int) (b : Int)) (chainM s a b) :=
 chainS0 a b ha b a s hs rfl
theorem chainI0 (a b : Nat) (ha : a + b ≤ 1000) : ∀ (n i : Nat) (s : ByteArray), s.size ≤ 1000000 → i + n = a + b → Ev (fun k => impl_chain.l0 k s (a : Int) (b : Int) (i : Int)) (chainM s i n) := by
 intro n
 induction n with
 | zero =>
  intro i s hs hi
  refine Ev.step (f := fun _ => some s) (fun k => ?_) (Ev.now _)
  simp only [impl_chain.l0]
  rw [w64 (by omega) (by omega), if_neg (by omega)]
 | succ n ih =>
  intro i s hs hi
  refine Ev.step (f := fun k => (impl_digest.f k 99 (one (i : Int) ++ s)).bind fun t => impl_chain.l0 k t (a : Int) (b : Int) ((i + 1 : Nat) : Int)) (fun k => ?_) ?_
  ·simp only [impl_chain.l0]
   rw [w64 (x := (a : Int) + b) (by omega) (by omega), if_pos (by omega), oneI]
   simp only [Option.bind_some]
   rw [if_pos (by rw [one_size]; omega), w64 (x := (i : Int) + 1) (by omega) (by omega)]
   rfl
  ·exact ev_bind (digI 99 kc _ (by rw [app_size, one_size]; omega)) (ih (i + 1) _ (by rw [dig_size]; omega) (by omega))
theorem chainI (s : ByteArray) (a b : Nat) (ha : a + b ≤ 1000) (hs : s.size ≤ 1000000) : Ev (fun k => impl_chain.f k s (a : Int) (b : Int)) (chainM s a b) :=
 chainI0 a b ha b a s hs rfl
def nibs : List UInt8 → List Int
 | [] => []
 | c :: l => (c.toNat : Int) / 16 :: (c.toNat : Int) % 16 :: nibs l
def sm : List Int → Int
 | [] => 0
 | n :: l => (15 - n) + sm l
theorem nibs_length (l : List UInt8) : (nibs l).length = 2 * l.length := by
 induction l with
 | nil => rfl
 | cons c l ih => simp only [nibs, List.length_cons, ih]; omega
theorem nibs_in (l : List UInt8) : ∀ n ∈ nibs l, 0 ≤ n ∧ n ≤ 15 := by
 induction l with
 | nil => intro n h; cases h
 | cons c l ih =>
  have hc : c.toNat < 256 := UInt8.toNat_lt _
  intro n h
  simp only [nibs, List.mem_cons] at h
  rcases h with rfl | rfl | h
  ·omega
  ·omega
  ·exact ih n h
theorem sm_nibs (l : List UInt8) : 0 ≤ sm (nibs l) ∧ sm (nibs l) ≤ 30 * l.length := by
 induction l with
 | nil => exact ⟨by decide, by decide⟩
 | cons c l ih =>
  have hc : c.toNat < 256 := UInt8.toNat_lt _
  simp only [nibs, sm, List.length_cons]
  omega
def checksM (S : Int) : List Int := [S / 256 % 16, S / 16 % 16, S % 16]
def digitsM (s : ByteArray) : List Int := nibs (dig 109 s).toList ++ checksM (sm (nibs (dig 109 s).toList))
theorem digitsM_length (s : ByteArray) : (digitsM s).length = 11 := by
 unfold digitsM
 rw [List.length_append, nibs_length, size_toList, dig_size]
 rfl
theorem digitsM_in (s : ByteArray) : ∀ n ∈ digitsM s, 0 ≤ n ∧ n ≤ 15 := by
 intro n h
 unfold digitsM at h
 rcases List.mem_append.mp h with h | h
 ·exact nibs_in _ n h
 ·unfold checksM at h
  simp only [List.mem_cons, List.not_mem_nil, or_false] at h
  rcases h with rfl | rfl | rfl <;> omega
theorem rd_at (l : List Int) (i : Nat) (h : i < l.length) : rd l (i : Int) = l[i] := by
 simp [rd, List.getD_eq_getElem?_getD, List.getElem?_eq_getElem h]
theorem rd_digits (s : ByteArray) (i : Nat) (h : i < 11) : 0 ≤ rd (digitsM s) (i : Int) ∧ rd (digitsM s) (i : Int) ≤ 15 := by
 have hl : i < (digitsM s).length := by rw [digitsM_length]; exact h
 rw [rd_at _ _ hl]
 exact digitsM_in s _ (List.getElem_mem hl)
theorem drop_cons {α : Type} (l : List α) (i : Nat) (h : i < l.length) : l.drop i = l[i] :: l.drop (i + 1) := List.drop_eq_getElem_cons h
theorem sumS (out : List Int) (hin : ∀ n ∈ out, 0 ≤ n ∧ n ≤ 15) (hl : out.length ≤ 100) : ∀ (d i : Nat) (S : Int), i + d = out.length → 0 ≤ S → S ≤ 15 * i → Ev (fun k => spec_l2Digits.l1 k out S out (out.length : Int) (i : Int)) (out ++ checksM (S + sm (out.drop i))) := by
 intro d
 induction d with
 | zero =>
  intro i S hi h0 h1
  refine Ev.step (f := fun _ => some (out ++ checksM S)) (fun k => ?_) ?_
  ·simp only [spec_l2Digits.l1]
   rw [if_neg (by omega)]
   simp only [Option.bind_some]
   rw [if_pos (by simp only [List.length_cons, List.length_nil]; omega)]
   have hb : ∀ x : Int, 0 ≤ x → x < 4294967296 → Go.bits .and .i64 x 15 = x % 16 := fun x hx0 hx1 => bits_mask .i64 63 (by decide) (fun n hn0 hn1 => by rw [i64_w]; exact w64 (by omega) (by omega)) 4 (by decide) x hx0 (by omega)
   rw [hb _ (by omega) (by omega), hb _ (by omega) (by omega), hb _ (by omega) (by omega)]
   rfl
  ·rw [List.drop_eq_nil_of_le (by omega)]
   simp only [sm, Int.add_zero]
   exact Ev.now _
 | succ d ih =>
  intro i S hi h0 h1
  have hlt : i < out.length := by omega
  have hr := rd_at out i hlt
  have hb := hin _ (List.getElem_mem hlt)
  refine Ev.step (f := fun k => spec_l2Digits.l1 k out (S + (15 - out[i])) out (out.length : Int) ((i + 1 : Nat) : Int)) (fun k => ?_) ?_
  ·simp only [spec_l2Digits.l1]
   rw [if_pos (by omega), if_pos (by omega), if_pos (by omega), hr, w64 (x := 15 - out[i]) (by omega) (by omega), w64 (x := S + (15 - out[i])) (by omega) (by omega), w64 (x := (i : Int) + 1) (by omega) (by omega)]
   rfl
  ·have := ih (i + 1) (S + (15 - out[i])) (by omega) (by omega) (by omega)
   rw [drop_cons out i hlt]
   simp only [sm]
   rw [← Int.add_assoc]
   exact this
theorem nibsS (t : ByteArray) (ht : t.size = 4) : ∀ (d i : Nat) (out : List Int), i + d = t.size → out = nibs (t.toList.take i) → Ev (fun k => spec_l2Digits.l0 k out t 0 (i : Int)) (nibs t.toList ++ checksM (sm (nibs t.toList))) := by
 have hlen : t.toList.length = 4 := by rw [size_toList]; exact ht
 intro d
 induction d with
 | zero =>
  intro i out hi ho
  have ho' : out = nibs t.toList := by rw [ho, List.take_of_length_le (by omega)]
  subst ho'
  refine Ev.step (f := fun k => spec_l2Digits.l1 k (nibs t.toList) 0 (nibs t.toList) ((nibs t.toList).length : Int) ((0 : Nat) : Int)) (fun k => ?_) ?_
  ·simp only [spec_l2Digits.l0]
   rw [if_neg (by omega)]
   rfl
  ·have := sumS (nibs t.toList) (nibs_in _) (by rw [nibs_length]; omega) (nibs t.toList).length 0 0 (by omega) (by omega) (by omega)
   simpa using this
 | succ d ih =>
  intro i out hi ho
  have hlt : i < t.size := by omega
  have hb := bt_get t i hlt
  have hlt' : i < t.toList.length := by omega
  have hg : t.toList.getD i 0 = t.toList[i] := by simp [List.getD_eq_getElem?_getD, List.getElem?_eq_getElem hlt']
  rw [hg] at hb
  have hc : (t.toList[i]).toNat < 256 := UInt8.toNat_lt _
  have hol : out.length = 2 * i := by rw [ho, nibs_length, List.length_take]; omega
  refine Ev.step (f := fun k => spec_l2Digits.l0 k (out ++ [((t.toList[i]).toNat : Int) / 16, ((t.toList[i]).toNat : Int) % 16]) t 0 ((i + 1 : Nat) : Int)) (fun k => ?_) ?_
  ·simp only [spec_l2Digits.l0]
   rw [if_pos (by omega), if_pos (by omega), hb, u8_and15 (x := ((t.toList[i]).toNat : Int)) (by omega) (by omega), w64 (x := ((t.toList[i]).toNat : Int) / 16) (by omega) (by omega), w64 (x := ((t.toList[i]).toNat : Int) % 16) (by omega) (by omega), w64 (x := (i : Int) + 1) (by omega) (by omega)]
   simp only [Option.bind_some]
   rw [if_pos (by simp only [List.length_cons, List.length_nil]; omega)]
   rfl
  ·refine ih (i + 1) _ (by omega) ?_
   rw [ho, List.take_succ_eq_append_getElem hlt']
   generalize List.take i t.toList = l
   induction l with
   | nil => rfl
   | cons c l ih2 => simp only [nibs, List.cons_append, ih2]
theorem kmm : Kd_ 109 := ⟨by decide, by decide⟩
theorem digitsS (s : ByteArray) (hs : s.size ≤ 1000000) : Ev (fun k => spec_l2Digits.f k s) (digitsM s) := by
 refine ev_bind (f := fun k t => spec_l2Digits.l0 k [] t 0 0) (digS 109 kmm s (by omega)) ?_
 exact nibsS (dig 109 s) (dig_size _ _) (dig 109 s).size 0 [] (by omega) rfl
theorem rd_bytes (t : ByteArray) (i : Nat) (h : i < t.toList.length) : rd (bytesOf t) (i : Int) = ((t.toList[i]).toNat : Int) := by
 rw [rd_bytesOf, bt_get t i (by rw [size_toList] at h; exact h)]
 simp [List.getD_eq_getElem?_getD, List.getElem?_eq_getElem h]
theorem bytesOf_len (t : ByteArray) : (bytesOf t).length = t.toList.length := by rw [bytesOf_length, size_toList]
theorem nibs_app (l : List UInt8) (c : UInt8) : nibs (l ++ [c]) = nibs l ++ [(c.toNat : Int) / 16, (c.toNat : Int) % 16] := by
 induction l with
 | nil => rfl
 | cons d l ih => simp only [nibs, List.cons_append, ih]
theorem sm_app (a b : List Int) : sm (a ++ b) = sm a + sm b := by
 induction a with
 | nil => simp [sm]
 | cons n a ih => simp only [sm, List.cons_append, ih]; omega
theorem nibsI (t : ByteArray) (ht : t.size = 4) : ∀ (d i : Nat) (out : List Int) (S : Int), i + d = t.toList.length → out = nibs (t.toList.take i) → S = sm out → Ev (fun k => impl_digits.l0 k out S (bytesOf t) ((bytesOf t).length : Int) (i : Int)) (nibs t.toList ++ checksM (sm (nibs t.toList))) := by
 have hlen : t.toList.length = 4 := by rw [size_toList]; exact ht
 intro d
 induction d with
 | zero =>
  intro i out S hi ho hS
  have ho' : out = nibs t.toList := by rw [ho, List.take_of_length_le (by omega)]
  subst ho'
  have hb := sm_nibs t.toList
  rw [hlen] at hb
  refine Ev.step (f := fun k => some (nibs t.toList ++ checksM (sm (nibs t.toList)))) (fun k => ?_) (Ev.now _)
  simp only [impl_digits.l0]
  rw [if_neg (by rw [bytesOf_len]; omega)]
  simp only [Option.bind_some]
  rw [if_pos (by rw [nibs_length]; simp only [List.length_cons, List.length_nil]; omega)]
  rw [hS, Int.tdiv_eq_ediv_of_nonneg hb.1, Int.tdiv_eq_ediv_of_nonneg hb.1, w64 (x := sm (nibs t.toList) / 256) (by omega) (by omega), w64 (x := sm (nibs t.toList) / 16) (by omega) (by omega), Int.tmod_eq_emod_of_nonneg hb.1, Int.tmod_eq_emod_of_nonneg (by omega)]
  unfold checksM
  rw [show sm (nibs t.toList) / 256 % 16 = sm (nibs t.toList) / 256 from by omega]
 | succ d ih =>
  intro i out S hi ho hS
  have hlt' : i < t.toList.length := by omega
  have hb := rd_bytes t i hlt'
  have hc : (t.toList[i]).toNat < 256 := UInt8.toNat_lt _
  have hol : out.length = 2 * i := by rw [ho, nibs_length, List.length_take]; omega
  have hSb : 0 ≤ S ∧ S ≤ 30 * i := by
   have := sm_nibs (t.toList.take i)
   rw [← ho, ← hS, List.length_take] at this
   omega
  refine Ev.step (f := fun k => impl_digits.l0 k (out ++ [((t.toList[i]).toNat : Int) / 16, ((t.toList[i]).toNat : Int) % 16]) (S + (30 - ((t.toList[i]).toNat : Int) / 16 - ((t.toList[i]).toNat : Int) % 16)) (bytesOf t) ((bytesOf t).length : Int) ((i + 1 : Nat) : Int)) (fun k => ?_) ?_
  ·simp only [impl_digits.l0]
   have hbl := bytesOf_len t
   rw [if_pos (by omega), if_pos (by omega), if_pos (by omega), hb, Int.tdiv_eq_ediv_of_nonneg (by omega), Int.tmod_eq_emod_of_nonneg (by omega), w64 (x := ((t.toList[i]).toNat : Int) % 16) (by omega) (by omega), w64 (x := (i : Int) + 1) (by omega) (by omega)]
   rw [show ((t.toList[i]).toNat : Int) / 16 % 256 = ((t.toList[i]).toNat : Int) / 16 from by omega]
   rw [w64 (x := 30 - ((t.toList[i]).toNat : Int) / 16 - ((t.toList[i]).toNat : Int) % 16) (by omega) (by omega), w64 (x := S + (30 - ((t.toList[i]).toNat : Int) / 16 - ((t.toList[i]).toNat : Int) % 16)) (by omega) (by omega)]
   simp only [Option.bind_some]
   rw [if_pos (by simp only [List.length_cons, List.length_nil]; omega)]
   rfl
  ·refine ih (i + 1) _ _ (by omega) ?_ ?_
   ·rw [ho, List.take_succ_eq_append_getElem hlt', nibs_app]
   ·rw [hS, sm_app]; simp only [sm]; omega
theorem digitsI (s : ByteArray) (hs : s.size ≤ 1000000) : Ev (fun k => impl_digits.f k s) (digitsM s) := by
 refine ev_bind (f := fun k t178 => if t178.size ≤ 9223372036854775807 then ((some (bytesOf t178 : List Int)).bind fun y179 => (impl_digits.l0 k ([] : List Int) 0 y179 (y179.length : Int) 0)) else (none)) (digI 109 kmm s (by omega)) ?_
 refine ev_pos (by rw [dig_size]; omega) ?_
 exact nibsI (dig 109 s) (dig_size _ _) (dig 109 s).toList.length 0 [] 0 (by omega) rfl rfl
end Go.Proofs.Ythhkkhnjkoacnaa.PK
end
section
namespace Go.Proofs.Ythhkkhnjkoacnaa.PL
open Go.RowKit Go.Proofs.YthhkkhnjkoacnaaW.PrintWords Go.Proofs.YthhkkhnjkoacnaaW.PrintLast Go.Proofs.YthhkkhnjkoacnaaW.PrintMore Go.Proofs.Ythhkkhnjkoacnaa.PB Go.Proofs.Ythhkkhnjkoacnaa.PA
set_option linter.unusedVariables false
theorem rdOf_at {α : Type} (d : α) (l : List α) (i : Nat) (h : i < l.length) : rdOf d l (i : Int) = l[i] := by
 simp [rdOf, List.getD_eq_getElem?_getD, List.getElem?_eq_getElem h]
end Go.Proofs.Ythhkkhnjkoacnaa.PL
end
section
namespace Go.Proofs.Ythhkkhnjkoacnaa.PS
open Go.RowKit Go.Proofs.YthhkkhnjkoacnaaW.PrintWords Go.Proofs.YthhkkhnjkoacnaaW.PrintLast Go.Proofs.YthhkkhnjkoacnaaW.PrintMore Go.Proofs.Ythhkkhnjkoacnaa.PB Go.Proofs.Ythhkkhnjkoacnaa.PD Go.Proofs.Ythhkkhnjkoacnaa.PK Go.Proofs.Ythhkkhnjkoacnaa.PL Go.Proofs.Ythhkkhnjkoacnaa.PA
set_option linter.unusedVariables false
theorem chainS' (s : ByteArray) (a b : Int) (h0 : 0 ≤ a) (h1 : 0 ≤ b) (h2 : a + b ≤ 1000) (hs : s.size ≤ 1000000) : Ev (fun k => spec_l2Chain.f k s a b) (chainM s a.toNat b.toNat) := by
 obtain ⟨m, rfl⟩ := Int.eq_ofNat_of_zero_le h0
 obtain ⟨n, rfl⟩ := Int.eq_ofNat_of_zero_le h1
 exact chainS s m n (by omega) hs
theorem chainI' (s : ByteArray) (a b : Int) (h0 : 0 ≤ a) (h1 : 0 ≤ b) (h2 : a + b ≤ 1000) (hs : s.size ≤ 1000000) : Ev (fun k => impl_chain.f k s a b) (chainM s a.toNat b.toNat) := by
 obtain ⟨m, rfl⟩ := Int.eq_ofNat_of_zero_le h0
 obtain ⟨n, rfl⟩ := Int.eq_ofNat_of_zero_le h1
 exact chainI s m n (by omega) hs
theorem kk : Kd_ 107 := ⟨by decide, by decide⟩
theorem kp : Kd_ 112 := ⟨by decide, by decide⟩
def keyM (seed : ByteArray) (i : Nat) : ByteArray := dig 107 (one (i : Int) ++ seed)
theorem keyM_size (seed : ByteArray) (i : Nat) : (keyM seed i).size = 4 := dig_size _ _
theorem keyS (seed : ByteArray) (hs : seed.size ≤ 1000000) (i : Nat) : Ev (fun k => spec_l2Key.f k seed (i : Int)) (keyM seed i) := by
 refine Ev.congr (f := fun k => (spec_l1Digest.f k 107 (one (i : Int) ++ seed)).bind fun t => some t) (fun k => ?_) (ev_bind (digS 107 kk _ (by rw [app_size, one_size]; omega)) (Ev.now _))
 simp only [spec_l2Key.f, Option.bind_some]
 rw [if_pos (by rw [strOfNums_size]; simp only [List.length_cons, List.length_nil]; omega)]
 rfl
def signAt (seed text : ByteArray) (i : Nat) : ByteArray := chainM (keyM seed i) 0 (rd (digitsM text) (i : Int)).toNat
def signM (seed text : ByteArray) : List ByteArray := (List.range 11).map (signAt seed text)
theorem signM_length (seed text : ByteArray) : (signM seed text).length = 11 := by simp [signM]
theorem signS (seed text : ByteArray) (hs : seed.size ≤ 1000000) (ht : text.size ≤ 1000000) : Ev (fun k => spec_l2Sign.f k seed text) (signM seed text) := by
 have hlen := digitsM_length text
 have key : ∀ (d i : Nat), i + d = 11 → Ev (fun k => spec_l2Sign.l0 k seed ((List.range i).map (signAt seed text)) (digitsM text) ((digitsM text).length : Int) (i : Int)) (signM seed text) := by
  intro d
  induction d with
  | zero =>
   intro i hi
   refine Ev.step (f := fun _ => some (signM seed text)) (fun k => ?_) (Ev.now _)
   simp only [spec_l2Sign.l0]
   rw [if_neg (by omega), show i = 11 by omega]
   rfl
  | succ d ih =>
   intro i hi
   have hr := rd_digits text i (by omega)
   refine Ev.step (f := fun k => (spec_l2Key.f k seed (i : Int)).bind fun t145 => (spec_l2Chain.f k t145 0 (rd (digitsM text) (i : Int))).bind fun t146 => spec_l2Sign.l0 k seed ((List.range i).map (signAt seed text) ++ [t146]) (digitsM text) ((digitsM text).length : Int) ((i + 1 : Nat) : Int)) (fun k => ?_) ?_
   ·simp only [spec_l2Sign.l0]
    rw [if_pos (by omega), if_pos (by omega), if_pos (by omega), w64 (x := (i : Int) + 1) (by omega) (by omega)]
    have hc : ((List.range i).map (signAt seed text)).length < 8796093022208 := by simp only [List.length_map, List.length_range]; omega
    simp only [if_pos hc]
    rfl
   ·refine ev_bind (keyS seed hs i) (ev_bind (chainS' _ 0 _ (by omega) hr.1 (by omega) (by rw [keyM_size]; omega)) ?_)
    have e : (List.range i).map (signAt seed text) ++ [chainM (keyM seed i) (0 : Int).toNat (rd (digitsM text) (i : Int)).toNat] = (List.range (i + 1)).map (signAt seed text) := by
     rw [List.range_succ, List.map_append]; rfl
    rw [e]
    exact ih (i + 1) (by omega)
 exact ev_bind (digitsS text ht) (key 11 0 (by omega))
def partsM (seed : ByteArray) : List ByteArray := (List.range 11).map (keyM seed)
theorem partsI (seed : ByteArray) (hs : seed.size ≤ 1000000) : Ev (fun k => impl_parts.f k seed) (partsM seed) := by
 have key : ∀ (d i : Nat), i + d = 11 → Ev (fun k => impl_parts.l0 k seed ((List.range i).map (keyM seed)) (i : Int)) (partsM seed) := by
  intro d
  induction d with
  | zero =>
   intro i hi
   refine Ev.step (f := fun _ => some (partsM seed)) (fun k => ?_) (Ev.now _)
   simp only [impl_parts.l0]
   rw [if_neg (by omega), show i = 11 by omega]
   rfl
  | succ d ih =>
   intro i hi
   refine Ev.step (f := fun k => (impl_digest.f k 107 (one (i : Int) ++ seed)).bind fun t => impl_parts.l0 k seed ((List.range i).map (keyM seed) ++ [t]) ((i + 1 : Nat) : Int)) (fun k => ?_) ?_
   ·simp only [impl_parts.l0]
    rw [if_pos (by omega), oneI]
    simp only [Option.bind_some]
    rw [if_pos (by rw [one_size]; omega), w64 (x := (i : Int) + 1) (by omega) (by omega)]
    congr 1
    funext t
    rw [if_pos (by simp only [List.length_map, List.length_range]; omega)]
    rfl
   ·refine ev_bind (digI 107 kk _ (by rw [app_size, one_size]; omega)) ?_
    have e : (List.range i).map (keyM seed) ++ [dig 107 (one (i : Int) ++ seed)] = (List.range (i + 1)).map (keyM seed) := by
     rw [List.range_succ, List.map_append]; rfl
    rw [e]
    exact ih (i + 1) (by omega)
 exact key 11 0 (by omega)
theorem signI (seed text : ByteArray) (hs : seed.size ≤ 1000000) (ht : text.size ≤ 1000000) : Ev (fun k => impl_sign.f k seed text) (signM seed text) := by
 have hlen := digitsM_length text
 let mid := fun (i : Nat) => (List.range 11).map fun j => if j < i then signAt seed text j else keyM seed j
 have hmid : ∀ i, (mid i).length = 11 := fun i => by simp [mid]
 have hat : ∀ i j (h : j < 11), (mid i)[j]'(by rw [hmid]; exact h) = if j < i then signAt seed text j else keyM seed j := fun i j h => by simp [mid]
 have key : ∀ (d i : Nat), i + d = 11 → Ev (fun k => impl_sign.l0 k (mid i) (digitsM text) ((digitsM text).length : Int) (i : Int)) (signM seed text) := by
  intro d
  induction d with
  | zero =>
   intro i hi
   refine Ev.step (f := fun _ => some (signM seed text)) (fun k => ?_) (Ev.now _)
   simp only [impl_sign.l0]
   rw [if_neg (by omega), show i = 11 by omega]
   refine congrArg some ?_
   apply List.ext_getElem
   ·rw [hmid, signM_length]
   ·intro j h1 h2
    rw [hmid] at h1
    rw [hat 11 j h1, if_pos h1]
    simp [signM]
  | succ d ih =>
   intro i hi
   have hr := rd_digits text i (by omega)
   have hm := hmid i
   refine Ev.step (f := fun k => (impl_chain.f k (keyM seed i) 0 (rd (digitsM text) (i : Int))).bind fun t => impl_sign.l0 k ((mid i).set i t) (digitsM text) ((digitsM text).length : Int) ((i + 1 : Nat) : Int)) (fun k => ?_) ?_
   ·simp only [impl_sign.l0]
    rw [if_pos (by omega), if_pos (by omega), if_pos (by omega), if_pos (by omega), rdOf_at _ _ i (by omega), hat i i (by omega), if_neg (by omega), w64 (x := (i : Int) + 1) (by omega) (by omega)]
    rfl
   ·refine ev_bind (chainI' _ 0 _ (by omega) hr.1 (by omega) (by rw [keyM_size]; omega)) ?_
    have e : (mid i).set i (chainM (keyM seed i) (0 : Int).toNat (rd (digitsM text) (i : Int)).toNat) = mid (i + 1) := by
     apply List.ext_getElem
     ·rw [List.length_set, hmid, hmid]
     ·intro j h1 h2
      rw [hmid] at h2
      rw [List.getElem_set, hat (i + 1) j h2]
      by_cases hj : i = j
      ·subst hj
       rw [if_pos rfl, if_pos (by omega)]
       rfl
      ·rw [if_neg hj, hat i j h2]
       by_cases hj2 : j < i
       ·rw [if_pos hj2, if_pos (by omega)]
       ·rw [if_neg hj2, if_neg (by omega)]
    rw [e]
    exact ih (i + 1) (by omega)
 refine ev_bind (partsI seed hs) (ev_bind (digitsI text ht) ?_)
 have e : partsM seed = mid 0 := by simp [partsM, mid]
 rw [e]
 exact key 11 0 (by omega)
def fromAt (text : ByteArray) (l : List ByteArray) (i : Nat) : ByteArray := chainM (l.getD i ⟨#[]⟩) (rd (digitsM text) (i : Int)).toNat (15 - rd (digitsM text) (i : Int)).toNat
def joined : List ByteArray → ByteArray → ByteArray
 | [], s => s
 | t :: l, s => joined l (s ++ t)
def fromM (text : ByteArray) (l : List ByteArray) : ByteArray := dig 112 (joined ((List.range 11).map (fromAt text l)) ⟨#[]⟩)
theorem joined_snoc (l : List ByteArray) (t s : ByteArray) : joined (l ++ [t]) s = joined l s ++ t := by
 induction l generalizing s with
 | nil => rfl
 | cons a l ih => exact ih (s ++ a)
def Good11 (l : List ByteArray) : Prop := l.length = 11 ∧ ∀ s ∈ l, s.size = 4
theorem getD_good {l : List ByteArray} (h : Good11 l) (i : Nat) (hi : i < 11) : (l.getD i ⟨#[]⟩).size = 4 := by
 have hl : i < l.length := by rw [h.1]; exact hi
 simp only [List.getD_eq_getElem?_getD, List.getElem?_eq_getElem hl, Option.getD_some]
 exact h.2 _ (List.getElem_mem hl)
theorem joined_size (text : ByteArray) (l : List ByteArray) (h : Good11 l) : ∀ i, i ≤ 11 → (joined ((List.range i).map (fromAt text l)) ⟨#[]⟩).size = 4 * i := by
 intro i
 induction i with
 | zero => intro _; rfl
 | succ i ih =>
  intro hi
  rw [List.range_succ, List.map_append, List.map_cons, List.map_nil, joined_snoc, app_size, ih (by omega)]
  unfold fromAt
  rw [chainM_size _ (getD_good h i (by omega))]
  omega
theorem rdOf_getD (l : List ByteArray) (i : Nat) : rdOf ByteArray.empty l (i : Int) = l.getD i ⟨#[]⟩ := by
 simp only [rdOf, Int.toNat_natCast]; rfl
theorem fromS (text : ByteArray) (l : List ByteArray) (ht : text.size ≤ 1000000) (h : Good11 l) : Ev (fun k => spec_l2From.f k text l) (fromM text l) := by
 have hlen := digitsM_length text
 have key : ∀ (d i : Nat), i + d = 11 → Ev (fun k => spec_l2From.l0 k l (joined ((List.range i).map (fromAt text l)) ⟨#[]⟩) (digitsM text) ((digitsM text).length : Int) (i : Int)) (fromM text l) := by
  intro d
  induction d with
  | zero =>
   intro i hi
   have hj := joined_size text l h 11 (by omega)
   refine Ev.step (f := fun k => (spec_l1Digest.f k 112 (joined ((List.range 11).map (fromAt text l)) ⟨#[]⟩)).bind fun t => some t) (fun k => ?_) (ev_bind (digS 112 kp _ (by omega)) (Ev.now _))
   simp only [spec_l2From.l0]
   rw [if_neg (by omega), show i = 11 by omega]
  | succ d ih =>
   intro i hi
   have hr := rd_digits text i (by omega)
   have hj := joined_size text l h i (by omega)
   have hl := h.1
   refine Ev.step (f := fun k => (spec_l2Chain.f k (l.getD i ⟨#[]⟩) (rd (digitsM text) (i : Int)) (15 - rd (digitsM text) (i : Int))).bind fun t => if (joined ((List.range i).map (fromAt text l)) ⟨#[]⟩).size + t.size ≤ 9223372036854775807 then spec_l2From.l0 k l (joined ((List.range i).map (fromAt text l)) ⟨#[]⟩ ++ t) (digitsM text) ((digitsM text).length : Int) ((i + 1 : Nat) : Int) else none) (fun k => ?_) ?_
   ·simp only [spec_l2From.l0]
    rw [if_pos (by omega), if_pos (by omega), if_pos (by omega), if_pos (by omega), rdOf_getD, w64 (x := 15 - rd (digitsM text) (i : Int)) (by omega) (by omega), w64 (x := (i : Int) + 1) (by omega) (by omega)]
    rfl
   ·refine ev_bind (chainS' _ _ _ hr.1 (by omega) (by omega) (by rw [getD_good h i (by omega)]; omega)) (ev_pos (by rw [chainM_size _ (getD_good h i (by omega))]; omega) ?_)
    have e : joined ((List.range i).map (fromAt text l)) ⟨#[]⟩ ++ chainM (l.getD i ⟨#[]⟩) (rd (digitsM text) (i : Int)).toNat (15 - rd (digitsM text) (i : Int)).toNat = joined ((List.range (i + 1)).map (fromAt text l)) ⟨#[]⟩ := by
     rw [List.range_succ, List.map_append, List.map_cons, List.map_nil, joined_snoc]; rfl
    rw [e]
    exact ih (i + 1) (by omega)
 exact ev_bind (digitsS text ht) (key 11 0 (by omega))
theorem fromI (text : ByteArray) (l : List ByteArray) (ht : text.size ≤ 1000000) (h : Good11 l) : Ev (fun k => impl_publicFrom.f k text l) (fromM text l) := by
 have hlen := digitsM_length text
 have key : ∀ (d i : Nat), i + d = 11 → Ev (fun k => impl_publicFrom.l0 k l (joined ((List.range i).map (fromAt text l)) ⟨#[]⟩) (digitsM text) ((digitsM text).length : Int) (i : Int)) (fromM text l) := by
  intro d
  induction d with
  | zero =>
   intro i hi
   have hj := joined_size text l h 11 (by omega)
   refine Ev.step (f := fun k => (impl_digest.f k 112 (joined ((List.range 11).map (fromAt text l)) ⟨#[]⟩)).bind fun t => some t) (fun k => ?_) (ev_bind (digI 112 kp _ (by omega)) (Ev.now _))
   simp only [impl_publicFrom.l0]
   rw [if_neg (by omega), show i = 11 by omega]
  | succ d ih =>
   intro i hi
   have hr := rd_digits text i (by omega)
   have hj := joined_size text l h i (by omega)
   have hl := h.1
   refine Ev.step (f := fun k => (impl_chain.f k (l.getD i ⟨#[]⟩) (rd (digitsM text) (i : Int)) (15 - rd (digitsM text) (i : Int))).bind fun t => if (joined ((List.range i).map (fromAt text l)) ⟨#[]⟩).size + t.size ≤ 9223372036854775807 then impl_publicFrom.l0 k l (joined ((List.range i).map (fromAt text l)) ⟨#[]⟩ ++ t) (digitsM text) ((digitsM text).length : Int) ((i + 1 : Nat) : Int) else none) (fun k => ?_) ?_
   ·simp only [impl_publicFrom.l0]
    rw [if_pos (by omega), if_pos (by omega), if_pos (by omega), if_pos (by omega), rdOf_getD, w64 (x := 15 - rd (digitsM text) (i : Int)) (by omega) (by omega), w64 (x := (i : Int) + 1) (by omega) (by omega)]
    rfl
   ·refine ev_bind (chainI' _ _ _ hr.1 (by omega) (by omega) (by rw [getD_good h i (by omega)]; omega)) (ev_pos (by rw [chainM_size _ (getD_good h i (by omega))]; omega) ?_)
    have e : joined ((List.range i).map (fromAt text l)) ⟨#[]⟩ ++ chainM (l.getD i ⟨#[]⟩) (rd (digitsM text) (i : Int)).toNat (15 - rd (digitsM text) (i : Int)).toNat = joined ((List.range (i + 1)).map (fromAt text l)) ⟨#[]⟩ := by
     rw [List.range_succ, List.map_append, List.map_cons, List.map_nil, joined_snoc]; rfl
    rw [e]
    exact ih (i + 1) (by omega)
 exact ev_bind (digitsI text ht) (key 11 0 (by omega))
end Go.Proofs.Ythhkkhnjkoacnaa.PS
end
section
namespace Go.Proofs.Ythhkkhnjkoacnaa.PT
open Go.RowKit Go.Proofs.YthhkkhnjkoacnaaW.PrintWords Go.Proofs.YthhkkhnjkoacnaaW.PrintLast Go.Proofs.YthhkkhnjkoacnaaW.PrintMore Go.Proofs.Ythhkkhnjkoacnaa.PB Go.Proofs.Ythhkkhnjkoacnaa.PD Go.Proofs.Ythhkkhnjkoacnaa.PK Go.Proofs.Ythhkkhnjkoacnaa.PL Go.Proofs.Ythhkkhnjkoacnaa.PS Go.Proofs.Ythhkkhnjkoacnaa.PA
set_option linter.unusedVariables false
theorem inS (a b c : Int) : spec_l1In.f a b c = some (decide (b ≤ a ∧ a ≤ c)) := by
 unfold spec_l1In.f
 by_cases h : a ≥ b
 ·rw [if_pos h]; simp [show b ≤ a from h]
 ·rw [if_neg h]; simp [show ¬ b ≤ a from h]
theorem inI (a b c : Int) : impl_within.f a b c = some (decide (b ≤ a ∧ a ≤ c)) := by
 unfold impl_within.f
 by_cases h : a ≥ b
 ·rw [if_pos h]; simp [show b ≤ a from h]
 ·rw [if_neg h]; simp [show ¬ b ≤ a from h]
theorem longS (a : ByteArray) : spec_l2Long.f a = some (decide ((a.size : Int) ≤ 200)) := rfl
end Go.Proofs.Ythhkkhnjkoacnaa.PT
end
section
namespace Go.Proofs.Ythhkkhnjkoacnaa.PU
open Go.RowKit Go.Proofs.YthhkkhnjkoacnaaW.PrintWords Go.Proofs.YthhkkhnjkoacnaaW.PrintLast Go.Proofs.YthhkkhnjkoacnaaW.PrintMore Go.Proofs.Ythhkkhnjkoacnaa.PB Go.Proofs.Ythhkkhnjkoacnaa.PD Go.Proofs.Ythhkkhnjkoacnaa.PK Go.Proofs.Ythhkkhnjkoacnaa.PL Go.Proofs.Ythhkkhnjkoacnaa.PS Go.Proofs.Ythhkkhnjkoacnaa.PT Go.Proofs.Ythhkkhnjkoacnaa.PA
set_option linter.unusedVariables false
theorem idx_any {α : Type} (l : List α) (rf : List α → Int → α) (hrf : ∀ i (h : i < l.length), rf l (i : Int) = l[i]) (L0 : Nat → List α → Int → Int → Option Int) (cl : Nat → α → Option Bool) (p : α → Bool)
  (hstep : ∀ k n i, L0 (k + 1) l n i = if i < n then (if 0 ≤ i then (if i < (l.length : Int) then ((cl k (rf l i)).bind fun t => if t = true then some i else L0 k l n (wrap64 (i + 1))) else none) else none) else some (-1))
  (hp : ∀ x ∈ l, Ev (fun k => cl k x) (p x)) (hl : l.length ≤ 4000000000000000000) : ∃ r, Ev (fun k => L0 k l (l.length : Int) 0) r ∧ decide (r ≥ 0) = l.any p := by
 have key : ∀ (d i : Nat), i + d = l.length → ∃ r, Ev (fun k => L0 k l (l.length : Int) (i : Int)) r ∧ decide (r ≥ 0) = (l.drop i).any p := by
  intro d
  induction d with
  | zero =>
   intro i hi
   refine ⟨-1, Ev.step (f := fun _ => some (-1)) (fun k => ?_) (Ev.now _), ?_⟩
   ·rw [hstep, if_neg (by omega)]
   ·rw [List.drop_eq_nil_of_le (by omega)]; rfl
  | succ d ih =>
   intro i hi
   have hlt : i < l.length := by omega
   have hpx := hp _ (List.getElem_mem hlt)
   rw [List.drop_eq_getElem_cons hlt, List.any_cons]
   have st : ∀ k, L0 (k + 1) l (l.length : Int) (i : Int) = (cl k l[i]).bind fun t => if t = true then some (i : Int) else L0 k l (l.length : Int) ((i + 1 : Nat) : Int) := by
    intro k
    rw [hstep, if_pos (by omega), if_pos (by omega), if_pos (by omega), hrf i hlt, w64 (x := (i : Int) + 1) (by omega) (by omega)]
    rfl
   cases hb : p l[i] with
   | true =>
    rw [hb] at hpx
    refine ⟨(i : Int), Ev.step (f := fun k => (cl k l[i]).bind fun t => if t = true then some (i : Int) else L0 k l (l.length : Int) ((i + 1 : Nat) : Int)) st (ev_bind hpx (ev_pos rfl (Ev.now _))), ?_⟩
    simp only [Bool.true_or]
    exact decide_eq_true (by omega)
   | false =>
    rw [hb] at hpx
    obtain ⟨r, hr, e⟩ := ih (i + 1) (by omega)
    refine ⟨r, Ev.step (f := fun k => (cl k l[i]).bind fun t => if t = true then some (i : Int) else L0 k l (l.length : Int) ((i + 1 : Nat) : Int)) st (ev_bind hpx (ev_neg (by simp) hr)), ?_⟩
    rw [Bool.false_or]; exact e
 obtain ⟨r, hr, e⟩ := key l.length 0 (by omega)
 exact ⟨r, hr, by rw [e, List.drop_zero]⟩
def all4 (l : List ByteArray) : Bool := l.all fun s => decide (s.size = 4)
theorem all4_iff (l : List ByteArray) : all4 l = true ↔ ∀ s ∈ l, s.size = 4 := by simp [all4]
theorem isDigI (s : ByteArray) : impl_isDigest.f s = some (decide (s.size = 4)) := by
 unfold impl_isDigest.f
 refine congrArg some ?_
 by_cases h : s.size = 4
 ·rw [decide_eq_true h, h]; rfl
 ·rw [decide_eq_false h]; exact beq_eq_false_iff_ne.mpr (by omega)
theorem any_not_all4 (l : List ByteArray) : (l.any fun s => !decide (s.size = 4)) = !all4 l := by
 induction l with
 | nil => rfl
 | cons a l ih => simp only [List.any_cons, all4, List.all_cons, Bool.not_and]; rw [ih]; rfl
theorem areDigI (l : List ByteArray) (m : Int) (hl : l.length ≤ 4000000000000000000) : Ev (fun k => impl_areDigests.f k l m) (decide ((l.length : Int) = m) && all4 l) := by
 unfold impl_areDigests.f
 by_cases h : (l.length : Int) = m
 ·refine ev_pos h ?_
  obtain ⟨r, hr, e⟩ := idx_any l (fun l i => rdOf ByteArray.empty l i) (fun i h => rdOf_at _ l i h) slices_IndexFunc_impl_areDigests_1.l0 (fun _ s => impl_areDigests_1.f s) (fun s => !decide (s.size = 4)) (fun k n i => rfl) (fun x _ => ev_of_eq (by unfold impl_areDigests_1.f; rw [isDigI]; rfl)) hl
  have hc : Ev (fun k => slices_ContainsFunc_impl_areDigests_1.f k l) (!all4 l) := by
   rw [← any_not_all4, ← e]
   exact ev_bind (f := fun _ t => some (decide (t ≥ 0))) hr (Ev.now _)
  refine ev_eq (ev_bind (f := fun _ t => some (!t)) hc (Ev.now _)) ?_
  rw [decide_eq_true h, Bool.true_and, Bool.not_not]
 ·refine ev_neg h ?_
  rw [decide_eq_false h]
  exact Ev.now _
theorem good11S (l : List ByteArray) (hl : l.length ≤ 4000000000000000000) : Ev (fun k => spec_l2Good.f k l) (decide ((l.length : Int) = 11) && all4 l) := by
 have key : ∀ (d i : Nat), i + d = l.length → Ev (fun k => spec_l2Good.l0 k l l (l.length : Int) (i : Int)) (decide ((l.length : Int) = 11) && all4 (l.drop i)) := by
  intro d
  induction d with
  | zero =>
   intro i hi
   refine Ev.step (f := fun _ => some ((l.length : Int) == 11)) (fun k => ?_) ?_
   ·simp only [spec_l2Good.l0]; rw [if_neg (by omega)]
   ·rw [List.drop_eq_nil_of_le (by omega)]
    refine ev_eq (Ev.now _) ?_
    simp only [all4, List.all_nil, Bool.and_true]
    rfl
  | succ d ih =>
   intro i hi
   have hlt : i < l.length := by omega
   rw [List.drop_eq_getElem_cons hlt]
   by_cases hb : l[i].size = 4
   ·refine Ev.step (f := fun k => spec_l2Good.l0 k l l (l.length : Int) ((i + 1 : Nat) : Int)) (fun k => ?_) ?_
    ·simp only [spec_l2Good.l0]
     rw [if_pos (by omega), if_pos (by omega), if_pos (by omega), rdOf_at _ _ _ hlt, if_pos (by omega), w64 (x := (i : Int) + 1) (by omega) (by omega)]
     rfl
    ·refine ev_eq (ih (i + 1) (by omega)) ?_
     simp only [all4, List.all_cons, decide_eq_true hb, Bool.true_and]
   ·refine Ev.step (f := fun _ => some false) (fun k => ?_) ?_
    ·simp only [spec_l2Good.l0]
     rw [if_pos (by omega), if_pos (by omega), if_pos (by omega), rdOf_at _ _ _ hlt, if_neg (by omega)]
    ·refine ev_eq (Ev.now _) ?_
     simp only [all4, List.all_cons, decide_eq_false hb, Bool.false_and, Bool.and_false]
 exact key l.length 0 (by omega)
theorem good_of (l : List ByteArray) (h : (decide ((l.length : Int) = 11) && all4 l) = true) : Good11 l := by
 simp only [Bool.and_eq_true, decide_eq_true_eq] at h
 exact ⟨by omega, (all4_iff l).1 h.2⟩
def okSign (text : ByteArray) (l : List ByteArray) : Bool := decide ((text.size : Int) ≤ 200) && (decide ((l.length : Int) = 11) && all4 l)
theorem isSignI (text : ByteArray) (l : List ByteArray) (hl : l.length ≤ 4000000000000000000) : Ev (fun k => impl_isSign.f k text l) (okSign text l) := by
 unfold impl_isSign.f okSign
 by_cases h : (text.size : Int) ≤ 200
 ·refine ev_pos h ?_
  rw [decide_eq_true h, Bool.true_and]
  exact ev_bind (f := fun _ t => some t) (areDigI l 11 hl) (Ev.now _)
 ·refine ev_neg h ?_
  rw [decide_eq_false h]
  exact Ev.now _
theorem okSign_good {text : ByteArray} {l : List ByteArray} (h : okSign text l = true) : text.size ≤ 200 ∧ Good11 l := by
 unfold okSign at h
 rw [Bool.and_eq_true] at h
 have h1 := h.1
 rw [decide_eq_true_eq] at h1
 exact ⟨by omega, good_of l h.2⟩
end Go.Proofs.Ythhkkhnjkoacnaa.PU
end
section
namespace Go.Proofs.Ythhkkhnjkoacnaa.QJ
open Go.RowKit Go.Proofs.YthhkkhnjkoacnaaW.PrintWords Go.Proofs.YthhkkhnjkoacnaaW.PrintLast Go.Proofs.YthhkkhnjkoacnaaW.PrintMore Go.Proofs.Ythhkkhnjkoacnaa.PB Go.Proofs.Ythhkkhnjkoacnaa.PD Go.Proofs.Ythhkkhnjkoacnaa.PK Go.Proofs.Ythhkkhnjkoacnaa.PL Go.Proofs.Ythhkkhnjkoacnaa.PS Go.Proofs.Ythhkkhnjkoacnaa.PT Go.Proofs.Ythhkkhnjkoacnaa.PU Go.Proofs.Ythhkkhnjkoacnaa.PA
set_option linter.unusedVariables false
def pubAt (seed : ByteArray) (i : Nat) : ByteArray := chainM (keyM seed i) 0 15
def publicM (seed : ByteArray) : ByteArray := dig 112 (joined ((List.range 11).map (pubAt seed)) ⟨#[]⟩)
theorem pub_size (seed : ByteArray) : ∀ i, (joined ((List.range i).map (pubAt seed)) ⟨#[]⟩).size = 4 * i := by
 intro i
 induction i with
 | zero => rfl
 | succ i ih =>
  rw [List.range_succ, List.map_append, List.map_cons, List.map_nil, joined_snoc, app_size, ih]
  unfold pubAt
  rw [chainM_size _ (keyM_size _ _)]
  omega
theorem publicS (seed : ByteArray) (hs : seed.size ≤ 1000000) : Ev (fun k => spec_l2Public.f k seed) (publicM seed) := by
 have key : ∀ (d i : Nat), i + d = 11 → Ev (fun k => spec_l2Public.l0 k seed (joined ((List.range i).map (pubAt seed)) ⟨#[]⟩) (i : Int)) (publicM seed) := by
  intro d
  induction d with
  | zero =>
   intro i hi
   have hj := pub_size seed 11
   refine Ev.step (f := fun k => (spec_l1Digest.f k 112 (joined ((List.range 11).map (pubAt seed)) ⟨#[]⟩)).bind fun t => some t) (fun k => ?_) (ev_bind (digS 112 kp _ (by omega)) (Ev.now _))
   simp only [spec_l2Public.l0]
   rw [if_neg (by omega), show i = 11 by omega]
  | succ d ih =>
   intro i hi
   have hj := pub_size seed i
   refine Ev.step (f := fun k => (spec_l2Key.f k seed (i : Int)).bind fun u => (spec_l2Chain.f k u 0 15).bind fun t => if (joined ((List.range i).map (pubAt seed)) ⟨#[]⟩).size + t.size ≤ 9223372036854775807 then spec_l2Public.l0 k seed (joined ((List.range i).map (pubAt seed)) ⟨#[]⟩ ++ t) ((i + 1 : Nat) : Int) else none) (fun k => ?_) ?_
   ·simp only [spec_l2Public.l0]
    rw [if_pos (by omega), w64 (x := (i : Int) + 1) (by omega) (by omega)]
    rfl
   ·refine ev_bind (keyS seed hs i) (ev_bind (chainS' _ 0 15 (by omega) (by omega) (by omega) (by rw [keyM_size]; omega)) (ev_pos (by rw [chainM_size _ (keyM_size _ _)]; omega) ?_))
    have e : joined ((List.range i).map (pubAt seed)) ⟨#[]⟩ ++ chainM (keyM seed i) (0 : Int).toNat (15 : Int).toNat = joined ((List.range (i + 1)).map (pubAt seed)) ⟨#[]⟩ := by
     rw [List.range_succ, List.map_append, List.map_cons, List.map_nil, joined_snoc]; rfl
    rw [e]
    exact ih (i + 1) (by omega)
 exact key 11 0 (by omega)
theorem parts_at (seed : ByteArray) (i : Nat) (h : i < 11) : rdOf ByteArray.empty (partsM seed) (i : Int) = keyM seed i := by
 rw [rdOf_at _ _ i (by simp [partsM]; omega)]; simp [partsM]
theorem parts_len (seed : ByteArray) : (partsM seed).length = 11 := by simp [partsM]
theorem publicI (seed : ByteArray) (hs : seed.size ≤ 1000000) : Ev (fun k => impl_public.f k seed) (publicM seed) := by
 have hl := parts_len seed
 have key : ∀ (d i : Nat), i + d = 11 → Ev (fun k => impl_public.l0 k (joined ((List.range i).map (pubAt seed)) ⟨#[]⟩) (partsM seed) ((partsM seed).length : Int) (i : Int)) (publicM seed) := by
  intro d
  induction d with
  | zero =>
   intro i hi
   have hj := pub_size seed 11
   refine Ev.step (f := fun k => (impl_digest.f k 112 (joined ((List.range 11).map (pubAt seed)) ⟨#[]⟩)).bind fun t => some t) (fun k => ?_) (ev_bind (digI 112 kp _ (by omega)) (Ev.now _))
   simp only [impl_public.l0]
   rw [if_neg (by omega), show i = 11 by omega]
  | succ d ih =>
   intro i hi
   have hj := pub_size seed i
   refine Ev.step (f := fun k => (impl_chain.f k (keyM seed i) 0 15).bind fun t => if (joined ((List.range i).map (pubAt seed)) ⟨#[]⟩).size + t.size ≤ 9223372036854775807 then impl_public.l0 k (joined ((List.range i).map (pubAt seed)) ⟨#[]⟩ ++ t) (partsM seed) ((partsM seed).length : Int) ((i + 1 : Nat) : Int) else none) (fun k => ?_) ?_
   ·simp only [impl_public.l0]
    rw [if_pos (by omega), if_pos (by omega), if_pos (by omega), parts_at seed i (by omega), w64 (x := (i : Int) + 1) (by omega) (by omega)]
    rfl
   ·refine ev_bind (chainI' _ 0 15 (by omega) (by omega) (by omega) (by rw [keyM_size]; omega)) (ev_pos (by rw [chainM_size _ (keyM_size _ _)]; omega) ?_)
    have e : joined ((List.range i).map (pubAt seed)) ⟨#[]⟩ ++ chainM (keyM seed i) (0 : Int).toNat (15 : Int).toNat = joined ((List.range (i + 1)).map (pubAt seed)) ⟨#[]⟩ := by
     rw [List.range_succ, List.map_append, List.map_cons, List.map_nil, joined_snoc]; rfl
    rw [e]
    exact ih (i + 1) (by omega)
 exact ev_bind (partsI seed hs) (key 11 0 (by omega))
theorem k116 : Kd_ 116 := ⟨by decide, by decide⟩
theorem pairDS (a b : ByteArray) (ha : a.size ≤ 1000000) (hb : b.size ≤ 1000000) : Ev (fun k => spec_l3Pair.f k a b) (dig 116 (a ++ b)) :=
 ev_pos (by omega) (ev_bind (digS 116 k116 _ (by rw [app_size]; omega)) (Ev.now _))
theorem pairDI (a b : ByteArray) (ha : a.size ≤ 1000000) (hb : b.size ≤ 1000000) : Ev (fun k => impl_pair.f k a b) (dig 116 (a ++ b)) :=
 ev_pos (by omega) (ev_bind (digI 116 k116 _ (by rw [app_size]; omega)) (Ev.now _))
theorem ofS (s : ByteArray) (n : Int) (hs : s.size ≤ 1000000) : spec_l3Of.f s n = some (s ++ one n) := by
 have := one_size n
 unfold spec_l3Of.f
 rw [Option.bind_some, if_pos (by show s.size + (one n).size ≤ _; omega)]
 rfl
theorem ofI (s : ByteArray) (n : Int) (hs : s.size ≤ 1000000) : impl_seedOf.f s n = some (s ++ one n) := by
 have := one_size n
 unfold impl_seedOf.f
 rw [oneI, Option.bind_some, if_pos (by omega)]
def leafM (seed : ByteArray) (i : Nat) : ByteArray := publicM (seed ++ one (i : Int))
theorem leafM_size (seed : ByteArray) (i : Nat) : (leafM seed i).size = 4 := dig_size _ _
def leavesM (seed : ByteArray) : List ByteArray := (List.range 8).map (leafM seed)
def All4 (l : List ByteArray) : Prop := ∀ s ∈ l, s.size = 4
theorem leaves4 (seed : ByteArray) : All4 (leavesM seed) := by
 intro s hs
 obtain ⟨i, _, rfl⟩ := List.mem_map.1 hs
 exact leafM_size _ _
theorem leaves_len (seed : ByteArray) : (leavesM seed).length = 8 := by simp [leavesM]
def nextL : List ByteArray → List ByteArray
 | a :: b :: l => dig 116 (a ++ b) :: nextL l
 | _ => []
theorem next4 : ∀ (n : Nat) (l : List ByteArray), l.length ≤ n → All4 (nextL l) := by
 intro n
 induction n with
 | zero => intro l hl; cases l with
  | nil => intro s hs; cases hs
  | cons a l => simp at hl
 | succ n ih => intro l hl; match l with
  | [] => intro s hs; cases hs
  | [a] => intro s hs; cases hs
  | a :: b :: l =>
   intro s hs
   rcases List.mem_cons.1 hs with rfl | hs
   ·exact dig_size _ _
   ·exact ih l (by simp only [List.length_cons] at hl; omega) s hs
theorem next_len : ∀ (m : Nat) (l : List ByteArray), l.length = 2 * m → (nextL l).length = m := by
 intro m
 induction m with
 | zero => intro l hl; cases l with
  | nil => rfl
  | cons a l => simp at hl
 | succ m ih => intro l hl; match l with
  | [] => exact absurd hl (by simp only [List.length_nil]; omega)
  | [a] => exact absurd hl (by simp only [List.length_cons, List.length_nil]; omega)
  | a :: b :: l =>
   show (nextL l).length + 1 = m + 1
   rw [ih l (by simp only [List.length_cons] at hl; omega)]
theorem drop_two (l : List ByteArray) (i : Nat) (h : i + 1 < l.length) : l.drop i = l[i] :: l[i + 1] :: l.drop (i + 2) := by
 rw [List.drop_eq_getElem_cons (by omega), List.drop_eq_getElem_cons (by omega)]
theorem four_of {l : List ByteArray} (h : All4 l) (i : Nat) (hi : i < l.length) : l[i].size = 4 := h _ (List.getElem_mem hi)
theorem wp1 (j : Nat) (h : j ≤ 1000) : wrap64 (((2 * j : Nat) : Int) + 1) = ((2 * j + 1 : Nat) : Int) := by rw [w64 (by omega) (by omega)]; omega
theorem wp2 (j : Nat) (h : j ≤ 1000) : wrap64 (((2 * j : Nat) : Int) + 2) = ((2 * (j + 1) : Nat) : Int) := by rw [w64 (by omega) (by omega)]; omega
theorem wp3 (i : Nat) (h : i ≤ 1000) : wrap64 ((i : Int) + 1) = ((i + 1 : Nat) : Int) := by rw [w64 (by omega) (by omega)]; omega
theorem pairsS (row : List ByteArray) (out : List (List ByteArray)) (h4 : All4 row) (hl : row.length ≤ 100) (ho : out.length ≤ 100) {r : List (List ByteArray)} (m : Nat) (hm : row.length = 2 * m) (hr : Ev (fun k => spec_l3Rows.l1 k (nextL row) (out ++ [nextL row])) r) :
  Ev (fun k => spec_l3Rows.l2 k row out [] 0) r := by
 have key : ∀ (d j : Nat) (acc : List ByteArray), 2 * (j + d) = row.length → acc.length = j → acc ++ nextL (row.drop (2 * j)) = nextL row → Ev (fun k => spec_l3Rows.l2 k row out acc ((2 * j : Nat) : Int)) r := by
  intro d
  induction d with
  | zero =>
   intro j acc hj ha he
   rw [List.drop_eq_nil_of_le (by omega)] at he
   have e : acc = nextL row := by rw [← he]; show acc = acc ++ []; rw [List.append_nil]
   subst e
   refine Ev.step (fun k => ?_) hr
   simp only [spec_l3Rows.l2]
   rw [if_neg (by omega), if_pos (by omega)]
  | succ d ih =>
   intro j acc hj ha he
   have z1 := four_of h4 (2 * j) (by omega)
   have z2 := four_of h4 (2 * j + 1) (by omega)
   have r1 := ih (j + 1) (acc ++ [dig 116 (row[2 * j]'(by omega) ++ row[2 * j + 1]'(by omega))]) (by omega) (by rw [List.length_append]; simp only [List.length_cons, List.length_nil]; omega) (by
    rw [drop_two row (2 * j) (by omega)] at he
    rw [← he, List.append_assoc]
    rfl)
   refine Ev.step (f := fun k => (spec_l3Pair.f k (row[2 * j]'(by omega)) (row[2 * j + 1]'(by omega))).bind fun t => spec_l3Rows.l2 k row out (acc ++ [t]) ((2 * (j + 1) : Nat) : Int)) (fun k => ?_) (ev_bind (pairDS (row[2 * j]'(by omega)) (row[2 * j + 1]'(by omega)) (by omega) (by omega)) r1)
   simp only [spec_l3Rows.l2]
   rw [if_pos (by omega), if_pos (by omega), wp1 j (by omega), wp2 j (by omega), if_pos (by omega), if_pos (by omega), rdOf_at _ row (2 * j) (by omega), rdOf_at _ row (2 * j + 1) (by omega)]
   congr 1; funext t
   rw [if_pos (by omega)]
 exact key m 0 [] (by omega) rfl rfl
theorem pairsI (x1 : Int) (row out : List ByteArray) (h4 : All4 row) (hl : row.length ≤ 100) {r : List ByteArray × ByteArray} (m : Nat) (hm : row.length = 2 * m) (hr : Ev (fun k => impl_way.l1 k x1 (nextL row) out) r) :
  Ev (fun k => impl_way.l2 k x1 row out [] 0) r := by
 have key : ∀ (d j : Nat) (acc : List ByteArray), 2 * (j + d) = row.length → acc.length = j → acc ++ nextL (row.drop (2 * j)) = nextL row → Ev (fun k => impl_way.l2 k x1 row out acc ((2 * j : Nat) : Int)) r := by
  intro d
  induction d with
  | zero =>
   intro j acc hj ha he
   rw [List.drop_eq_nil_of_le (by omega)] at he
   have e : acc = nextL row := by rw [← he]; show acc = acc ++ []; rw [List.append_nil]
   subst e
   refine Ev.step (fun k => ?_) hr
   simp only [impl_way.l2]
   rw [if_neg (by omega)]
  | succ d ih =>
   intro j acc hj ha he
   have z1 := four_of h4 (2 * j) (by omega)
   have z2 := four_of h4 (2 * j + 1) (by omega)
   have r1 := ih (j + 1) (acc ++ [dig 116 (row[2 * j]'(by omega) ++ row[2 * j + 1]'(by omega))]) (by omega) (by rw [List.length_append]; simp only [List.length_cons, List.length_nil]; omega) (by
    rw [drop_two row (2 * j) (by omega)] at he
    rw [← he, List.append_assoc]
    rfl)
   refine Ev.step (f := fun k => (impl_pair.f k (row[2 * j]'(by omega)) (row[2 * j + 1]'(by omega))).bind fun t => impl_way.l2 k x1 row out (acc ++ [t]) ((2 * (j + 1) : Nat) : Int)) (fun k => ?_) (ev_bind (pairDI (row[2 * j]'(by omega)) (row[2 * j + 1]'(by omega)) (by omega) (by omega)) r1)
   simp only [impl_way.l2]
   rw [if_pos (by omega), if_pos (by omega), wp1 j (by omega), wp2 j (by omega), if_pos (by omega), if_pos (by omega), rdOf_at _ row (2 * j) (by omega), rdOf_at _ row (2 * j + 1) (by omega)]
   congr 1; funext t
   rw [if_pos (by omega)]
 exact key m 0 [] (by omega) rfl rfl
def row1 (seed : ByteArray) : List ByteArray := nextL (leavesM seed)
def row2 (seed : ByteArray) : List ByteArray := nextL (row1 seed)
def row3 (seed : ByteArray) : List ByteArray := nextL (row2 seed)
theorem row1_len (seed : ByteArray) : (row1 seed).length = 4 := next_len 4 _ (leaves_len seed)
theorem row2_len (seed : ByteArray) : (row2 seed).length = 2 := next_len 2 _ (row1_len seed)
theorem row3_len (seed : ByteArray) : (row3 seed).length = 1 := next_len 1 _ (row2_len seed)
def rowsM (seed : ByteArray) : List (List ByteArray) := [leavesM seed, row1 seed, row2 seed, row3 seed]
def topM (seed : ByteArray) : ByteArray := rdOf ByteArray.empty (row3 seed) 0
theorem leavesS (seed : ByteArray) (hs : seed.size ≤ 1000) {r : List (List ByteArray)} (hr : Ev (fun k => spec_l3Rows.l1 k (leavesM seed) [leavesM seed]) r) : Ev (fun k => spec_l3Rows.f k seed) r := by
 have key : ∀ (d i : Nat), i + d = 8 → Ev (fun k => spec_l3Rows.l0 k seed ((List.range i).map (leafM seed)) (i : Int)) r := by
  intro d
  induction d with
  | zero =>
   intro i hi
   have ei : i = 8 := by omega
   subst ei
   exact Ev.step (fun k => by simp only [spec_l3Rows.l0]; rw [if_neg (by omega)]; rfl) hr
  | succ d ih =>
   intro i hi
   have e : (List.range i).map (leafM seed) ++ [leafM seed i] = (List.range (i + 1)).map (leafM seed) := by rw [List.range_succ, List.map_append]; rfl
   have z : (seed ++ one (i : Int)).size ≤ 1000000 := by rw [app_size, one_size]; omega
   refine Ev.step (f := fun k => (spec_l2Public.f k (seed ++ one (i : Int))).bind fun t => spec_l3Rows.l0 k seed ((List.range i).map (leafM seed) ++ [t]) ((i + 1 : Nat) : Int)) (fun k => ?_) (ev_bind (publicS _ z) ?_)
   ·simp only [spec_l3Rows.l0]
    rw [if_pos (by omega), ofS seed _ (by omega), Option.bind_some, wp3 i (by omega)]
    congr 1; funext t
    rw [if_pos (by simp only [List.length_map, List.length_range]; omega)]
   ·have := ih (i + 1) (by omega)
    rw [← e] at this
    exact this
 exact key 8 0 (by omega)
theorem leavesI (seed : ByteArray) (no : Int) (hs : seed.size ≤ 1000) {r : List ByteArray × ByteArray} (hr : Ev (fun k => impl_way.l1 k no (leavesM seed) []) r) : Ev (fun k => impl_way.f k seed no) r := by
 have key : ∀ (d i : Nat), i + d = 8 → Ev (fun k => impl_way.l0 k seed no ((List.range i).map (leafM seed)) (i : Int)) r := by
  intro d
  induction d with
  | zero =>
   intro i hi
   have ei : i = 8 := by omega
   subst ei
   exact Ev.step (fun k => by simp only [impl_way.l0]; rw [if_neg (by omega)]; rfl) hr
  | succ d ih =>
   intro i hi
   have e : (List.range i).map (leafM seed) ++ [leafM seed i] = (List.range (i + 1)).map (leafM seed) := by rw [List.range_succ, List.map_append]; rfl
   have z : (seed ++ one (i : Int)).size ≤ 1000000 := by rw [app_size, one_size]; omega
   refine Ev.step (f := fun k => (impl_public.f k (seed ++ one (i : Int))).bind fun t => impl_way.l0 k seed no ((List.range i).map (leafM seed) ++ [t]) ((i + 1 : Nat) : Int)) (fun k => ?_) (ev_bind (publicI _ z) ?_)
   ·simp only [impl_way.l0]
    rw [if_pos (by omega), ofI seed _ (by omega), Option.bind_some, wp3 i (by omega)]
    congr 1; funext t
    rw [if_pos (by simp only [List.length_map, List.length_range]; omega)]
   ·have := ih (i + 1) (by omega)
    rw [← e] at this
    exact this
 exact key 8 0 (by omega)
theorem l1S (row : List ByteArray) (out : List (List ByteArray)) (h4 : All4 row) (hl : row.length ≤ 100) (ho : out.length ≤ 100) {r : List (List ByteArray)} (m : Nat) (hm : row.length = 2 * m) (hp : 0 < m) (hr : Ev (fun k => spec_l3Rows.l1 k (nextL row) (out ++ [nextL row])) r) : Ev (fun k => spec_l3Rows.l1 k row out) r :=
 Ev.step (fun k => by simp only [spec_l3Rows.l1]; rw [if_pos (by omega)]) (pairsS row out h4 hl ho m hm hr)
theorem rowsS (seed : ByteArray) (hs : seed.size ≤ 1000) : Ev (fun k => spec_l3Rows.f k seed) (rowsM seed) := by
 have l0 := leaves_len seed
 have l1 := row1_len seed
 have l2 := row2_len seed
 have l3 := row3_len seed
 refine leavesS seed hs (l1S _ _ (leaves4 seed) (by omega) (by simp) 4 (by omega) (by omega) ?_)
 refine l1S (row1 seed) _ (next4 8 _ (by omega)) (by omega) (by simp) 2 (by omega) (by omega) ?_
 refine l1S (row2 seed) _ (next4 4 _ (by omega)) (by omega) (by simp) 1 (by omega) (by omega) ?_
 exact Ev.step (f := fun _ => some (rowsM seed)) (fun k => by simp only [spec_l3Rows.l1]; rw [if_neg (by show ¬ ((row3 seed).length : Int) > 1; omega)]; rfl) (Ev.now _)
def sib (n : Nat) : Nat := if n % 2 = 0 then n + 1 else n - 1
theorem xor1 (n : Nat) (h : n < 8) : Go.bits .xor .i64 (n : Int) 1 = (sib n : Int) := by
 match n, h with
 | 0, _ => decide
 | 1, _ => decide
 | 2, _ => decide
 | 3, _ => decide
 | 4, _ => decide
 | 5, _ => decide
 | 6, _ => decide
 | 7, _ => decide
theorem half (n : Nat) (h : n < 8) : wrap64 (Int.tdiv (n : Int) 2) = ((n / 2 : Nat) : Int) := by
 rw [Int.tdiv_eq_ediv_of_nonneg (by omega), w64 (by omega) (by omega)]; omega
theorem sib_lt (n m : Nat) (h : n < 2 * m) : sib n < 2 * m := by unfold sib; split <;> omega
def wayM (seed : ByteArray) (n : Nat) : List ByteArray := [rdOf ByteArray.empty (leavesM seed) (sib n : Int), rdOf ByteArray.empty (row1 seed) (sib (n / 2) : Int), rdOf ByteArray.empty (row2 seed) (sib (n / 2 / 2) : Int)]
theorem wayS (seed : ByteArray) (n : Nat) (hs : seed.size ≤ 1000) (hn : n < 8) : Ev (fun k => spec_l3Way.f k seed (n : Int)) (wayM seed n) := by
 have l0 := leaves_len seed
 have l1 := row1_len seed
 have l2 := row2_len seed
 have step : ∀ (h : Nat) (row : List ByteArray) (x : Nat) (acc : List ByteArray) (m : Nat) {r : List ByteArray}, h < 3 → rd_L3 (rowsM seed) (h : Int) = row → row.length = 2 * m → x < 2 * m → 2 * m ≤ 8 → acc.length ≤ 100 → Ev (fun k => spec_l3Way.l0 k ((x / 2 : Nat) : Int) (rowsM seed) (acc ++ [rdOf ByteArray.empty row (sib x : Int)]) ((h + 1 : Nat) : Int)) r → Ev (fun k => spec_l3Way.l0 k (x : Int) (rowsM seed) acc (h : Int)) r := by
  intro h row x acc m r hh er hm hx hm8 ha hr
  have hz := sib_lt x m hx
  have hlen : (rowsM seed).length = 4 := rfl
  refine Ev.step (fun k => ?_) hr
  simp only [spec_l3Way.l0]
  rw [if_pos (by omega), if_pos (by omega), if_pos (by omega), xor1 x (by omega), if_pos (by omega), er, if_pos (by omega), if_pos (by omega), half x (by omega), wp3 h (by omega)]
 refine ev_bind (rowsS seed hs) ?_
 refine step 0 (leavesM seed) n [] 4 (by omega) rfl l0 (by omega) (by omega) (by simp) ?_
 refine step 1 (row1 seed) (n / 2) _ 2 (by omega) rfl l1 (by omega) (by omega) (by simp) ?_
 refine step 2 (row2 seed) (n / 2 / 2) _ 1 (by omega) rfl l2 (by omega) (by omega) (by simp) ?_
 exact Ev.step (f := fun _ => some (wayM seed n)) (fun k => by simp only [spec_l3Way.l0]; rw [if_neg (by omega)]; rfl) (Ev.now _)
theorem wayI (seed : ByteArray) (n : Nat) (hs : seed.size ≤ 1000) (hn : n < 8) : Ev (fun k => impl_way.f k seed (n : Int)) (wayM seed n, topM seed) := by
 have l0 := leaves_len seed
 have l1 := row1_len seed
 have l2 := row2_len seed
 have l3 := row3_len seed
 have step : ∀ (row : List ByteArray) (x : Nat) (acc : List ByteArray) (m : Nat) {r : List ByteArray × ByteArray}, All4 row → row.length = 2 * m → 0 < m → x < 2 * m → 2 * m ≤ 8 → acc.length ≤ 100 → Ev (fun k => impl_way.l1 k ((x / 2 : Nat) : Int) (nextL row) (acc ++ [rdOf ByteArray.empty row (sib x : Int)])) r → Ev (fun k => impl_way.l1 k (x : Int) row acc) r := by
  intro row x acc m r h4 hm hp hx hm8 ha hr
  have hz := sib_lt x m hx
  refine Ev.step (fun k => ?_) (pairsI ((x / 2 : Nat) : Int) row (acc ++ [rdOf ByteArray.empty row (sib x : Int)]) h4 (by omega) m hm hr)
  simp only [impl_way.l1]
  rw [if_pos (by omega), xor1 x (by omega), if_pos (by omega), if_pos (by omega), if_pos (by omega), half x (by omega)]
 refine leavesI seed _ hs ?_
 refine step (leavesM seed) n [] 4 (leaves4 seed) l0 (by omega) (by omega) (by omega) (by simp) ?_
 refine step (row1 seed) (n / 2) _ 2 (next4 8 _ (by omega)) l1 (by omega) (by omega) (by omega) (by simp) ?_
 refine step (row2 seed) (n / 2 / 2) _ 1 (next4 4 _ (by omega)) l2 (by omega) (by omega) (by omega) (by simp) ?_
 refine Ev.step (f := fun _ => some (wayM seed n, topM seed)) (fun k => ?_) (Ev.now _)
 simp only [impl_way.l1]
 rw [if_neg (by show ¬ ((row3 seed).length : Int) > 1; omega), if_pos (by show 0 < ((row3 seed).length : Int); omega)]
 rfl
theorem wayM_len (seed : ByteArray) (n : Nat) : (wayM seed n).length = 3 := rfl
def goodSg (seed : ByteArray) (u : Int) : Bool := decide (1 ≤ (seed.size : Int) ∧ (seed.size : Int) ≤ 8) && decide (0 ≤ u ∧ u ≤ 8)
theorem goodSgS (seed : ByteArray) (u : Int) : spec_GoodSigner.f seed u = some (goodSg seed u) := by
 unfold spec_GoodSigner.f spec_l3Seed.f goodSg
 rw [inS, inS]
 simp only [Option.bind_some]
 cases decide (1 ≤ (seed.size : Int) ∧ (seed.size : Int) ≤ 8) <;> rfl
theorem goodSgI (seed : ByteArray) (u : Int) : impl_GoodSigner.f seed u = some (goodSg seed u) := by
 unfold impl_GoodSigner.f impl_isSeed.f goodSg
 rw [inI, inI]
 simp only [Option.bind_some]
 cases decide (1 ≤ (seed.size : Int) ∧ (seed.size : Int) ≤ 8) <;> rfl
abbrev SealAns := ByteArray × Int × Int × List ByteArray × List ByteArray × Bool
def noSeal : SealAns := (⟨#[]⟩, 0, 0, [], [], false)
def sealM (seed : ByteArray) (u : Int) (text : ByteArray) : SealAns :=
 if goodSg seed u = true ∧ (text.size : Int) ≤ 200 ∧ u ≠ 8 then (seed, u + 1, u, signM (seed ++ one u) text, wayM seed u.toNat, true) else noSeal
theorem goodSg_facts {seed : ByteArray} {u : Int} (h : goodSg seed u = true) : seed.size ≤ 8 ∧ 0 ≤ u ∧ u ≤ 8 := by
 unfold goodSg at h
 rw [Bool.and_eq_true] at h
 have h1 := of_decide_eq_true h.1
 have h2 := of_decide_eq_true h.2
 omega
theorem sealS (seed : ByteArray) (u : Int) (text : ByteArray) : Ev (fun k => spec_SealText.f k seed u text) (sealM seed u text) := by
 have no : Ev (fun k => spec_SealText.j0 k text true seed u) noSeal := Ev.step (f := fun _ => some noSeal) (fun k => by simp only [spec_SealText.j0]; rw [if_pos trivial]; rfl) (Ev.now _)
 unfold sealM
 by_cases g : goodSg seed u = true
 ·obtain ⟨hs, h0, h8⟩ := goodSg_facts g
  by_cases ht : (text.size : Int) ≤ 200
  ·by_cases hu : u = 8
   ·rw [if_neg (by omega)]
    subst hu
    exact ev_const (goodSgS _ _) (ev_pos g (ev_const (longS text) (ev_pos (decide_eq_true ht) no)))
   ·rw [if_pos ⟨g, ht, hu⟩]
    obtain ⟨n, rfl⟩ := Int.eq_ofNat_of_zero_le h0
    have w : wrap64 ((n : Int) + 1) = (n : Int) + 1 := w64 (by omega) (by omega)
    have z : (seed ++ one (n : Int)).size ≤ 1000000 := by rw [app_size, one_size]; omega
    refine ev_const (goodSgS _ _) (ev_pos g (ev_const (longS text) (ev_pos (decide_eq_true ht) ?_)))
    rw [beq_eq_false_iff_ne.2 hu]
    refine Ev.step (f := fun k => (spec_l2Sign.f k (seed ++ one (n : Int)) text).bind fun t => (spec_l3Way.f k seed (n : Int)).bind fun y => some (seed, (n : Int) + 1, (n : Int), t, y, true)) (fun k => ?_) (ev_bind (signS _ text z (by omega)) (ev_bind (wayS seed n (by omega) (by omega)) (Ev.now _)))
    simp only [spec_SealText.j0]
    rw [if_neg (by simp), ofS seed _ (by omega), Option.bind_some, w]
  ·rw [if_neg (by omega)]
   exact ev_const (goodSgS _ _) (ev_pos g (ev_const (longS text) (ev_neg (by simp [ht]) no)))
 ·rw [if_neg (fun h => g h.1)]
  exact ev_const (goodSgS _ _) (ev_neg g no)
theorem sealI (seed : ByteArray) (u : Int) (text : ByteArray) : Ev (fun k => impl_SealText.f k seed u text) (sealM seed u text) := by
 have no : Ev (fun k => impl_SealText.j0 k text true seed u) noSeal := Ev.step (f := fun _ => some noSeal) (fun k => by simp only [impl_SealText.j0]; rw [if_pos trivial]; rfl) (Ev.now _)
 unfold sealM
 by_cases g : goodSg seed u = true
 ·obtain ⟨hs, h0, h8⟩ := goodSg_facts g
  by_cases hu : u = 8
  ·rw [if_neg (by omega)]
   exact ev_const (goodSgI _ _) (ev_pos g (ev_pos hu no))
  ·refine ev_const (goodSgI _ _) (ev_pos g (ev_neg hu ?_))
   by_cases ht : (text.size : Int) ≤ 200
   ·rw [if_pos ⟨g, ht, hu⟩, decide_eq_false (by omega)]
    obtain ⟨n, rfl⟩ := Int.eq_ofNat_of_zero_le h0
    have w : wrap64 ((n : Int) + 1) = (n : Int) + 1 := w64 (by omega) (by omega)
    have z : (seed ++ one (n : Int)).size ≤ 1000000 := by rw [app_size, one_size]; omega
    refine Ev.step (f := fun k => (impl_way.f k seed (n : Int)).bind fun y => (impl_sign.f k (seed ++ one (n : Int)) text).bind fun t => some (seed, (n : Int) + 1, (n : Int), t, y.1, true)) (fun k => ?_) (ev_bind (wayI seed n (by omega) (by omega)) (ev_bind (signI _ text z (by omega)) (Ev.now _)))
    simp only [impl_SealText.j0]
    rw [if_neg (by simp), ofI seed _ (by omega), w]
    rfl
   ·rw [if_neg (by omega), decide_eq_true (by omega)]
    exact no
 ·rw [if_neg (fun h => g h.1)]
  exact ev_const (goodSgI _ _) (ev_neg g no)
theorem sealM_len (seed : ByteArray) (u : Int) (text : ByteArray) : (sealM seed u text).2.2.2.1.length ≤ 11 ∧ (sealM seed u text).2.2.2.2.1.length ≤ 3 := by
 unfold sealM
 split
 ·exact ⟨by show (signM _ _).length ≤ 11; rw [signM_length]; omega, by show (wayM _ _).length ≤ 3; rw [wayM_len]; omega⟩
 ·exact ⟨by simp [noSeal], by simp [noSeal]⟩
end Go.Proofs.Ythhkkhnjkoacnaa.QJ
end
section
namespace Go.Proofs.Ythhkkhnjkoacnaa.PC
open Go.RowKit Go.Proofs.YthhkkhnjkoacnaaW.PrintWords Go.Proofs.YthhkkhnjkoacnaaW.PrintLast Go.Proofs.YthhkkhnjkoacnaaW.PrintMore Go.Proofs.Ythhkkhnjkoacnaa.PB Go.Proofs.Ythhkkhnjkoacnaa.PL Go.Proofs.Ythhkkhnjkoacnaa.PA
set_option linter.unusedVariables false
def Bys (c : List Int) : Prop := ∀ x ∈ c, 0 ≤ x ∧ x ≤ 255
theorem code_of (c : List Int) (h : ∀ x ∈ c, (Lit.int .u8 x).wf = true) : Bys c := by
 intro x hx
 have := h x hx
 simp [Lit.wf] at this
 have e1 : IntKind.u8.min = 0 := rfl
 have e2 : IntKind.u8.max = 255 := rfl
 rw [e1, e2] at this
 omega
theorem code_at {c : List Int} (h : Bys c) (i : Int) : 0 ≤ rd c i ∧ rd c i ≤ 255 := by
 unfold rd
 rw [List.getD_eq_getElem?_getD]
 cases e : c[i.toNat]? with
 | none => simp
 | some x => exact h x (List.mem_of_getElem? e)
theorem wrap_u64 (n : Int) : IntKind.u64.wrap n = n % 18446744073709551616 := by simp [IntKind.wrap, IntKind.bits, IntKind.signed]
theorem and255 (x : Int) (h0 : 0 ≤ x) (h1 : x < 16777216) : 0 ≤ wrap64 (Go.bits .and .u64 x 255) ∧ wrap64 (Go.bits .and .u64 x 255) ≤ 255 := by
 have h := Go.bits_mask .u64 24 (by decide) (fun n a b => by rw [wrap_u64]; omega) 8 (by decide) x h0 (by omega)
 have e : ((2 : Int) ^ 8 - 1) = 255 := by decide
 rw [e] at h
 rw [h, w64 (by omega) (by omega)]
 omega
def Drawn {α : Type} (i : Int) (K : Int) (o : Option (α × Int × Int)) (P : α → Prop) : Prop := ∃ v i' s', o = some (v, i', s') ∧ P v ∧ i ≤ i' ∧ i' ≤ i + K
theorem next_d {c : List Int} (hc : Bys c) (i s : Int) (h0 : 0 ≤ i) (h1 : i ≤ 1000000000000) : Drawn i 1 (spec_l1Cur_next.f c i s) (fun v => 0 ≤ v ∧ v ≤ 255) := by
 have e : wrap64 (i + 1) = i + 1 := w64 (by omega) (by omega)
 have hr := code_at hc i
 have hv : wrap64 (rd c i) = rd c i := w64 (by omega) (by omega)
 unfold spec_l1Cur_next.f
 rw [e]
 by_cases hi : i < (c.length : Int)
 ·rw [if_pos hi, if_pos h0, if_pos (by omega)]
  exact ⟨_, _, _, rfl, by rw [hv]; exact hr, by omega, by omega⟩
 ·rw [if_neg hi, if_neg (by omega)]
  refine ⟨_, _, _, rfl, and255 _ ?_ ?_, by omega, by omega⟩
  ·rw [wrap_u64]; omega
  ·rw [wrap_u64]; omega
theorem pick_d {c : List Int} (hc : Bys c) (i s n : Int) (h0 : 0 ≤ i) (h1 : i ≤ 100000000000) (hn : n ≤ 1000000000) : Drawn i 2 (spec_l1Cur_pick.f c i s n) (fun v => 0 ≤ v ∧ (v < n ∨ v = 0)) := by
 unfold spec_l1Cur_pick.f
 by_cases c1 : n ≤ 1
 ·rw [if_pos c1]
  exact ⟨0, i, s, rfl, ⟨by omega, Or.inr rfl⟩, by omega, by omega⟩
 ·rw [if_neg c1]
  obtain ⟨v, i', s', e, hv, hi1, hi2⟩ := next_d hc i s h0 (by omega)
  rw [e]
  simp only [Option.bind_some]
  by_cases c2 : n > 200
  ·rw [if_pos c2]
   obtain ⟨v2, i2, s2, e2, hv2, hi3, hi4⟩ := next_d hc i' s' (by omega) (by omega)
   rw [e2]
   simp only [Option.bind_some]
   rw [if_neg (by omega), w64 (x := v * 256) (by omega) (by omega), w64 (x := v * 256 + v2) (by omega) (by omega), Int.tmod_eq_emod_of_nonneg (by omega)]
   exact ⟨_, _, _, rfl, ⟨Int.emod_nonneg _ (by omega), Or.inl (Int.emod_lt_of_pos _ (by omega))⟩, by omega, by omega⟩
  ·rw [if_neg c2, if_neg (by omega), Int.tmod_eq_emod_of_nonneg (by omega)]
   exact ⟨_, _, _, rfl, ⟨Int.emod_nonneg _ (by omega), Or.inl (Int.emod_lt_of_pos _ (by omega))⟩, by omega, by omega⟩
theorem of_d {c : List Int} (hc : Bys c) (i s : Int) (l : List ByteArray) (h0 : 0 ≤ i) (h1 : i ≤ 100000000000) (hl : 1 ≤ l.length ∧ l.length ≤ 1000000000) : Drawn i 2 (spec_l1Cur_of.f c i s l) (fun v => v ∈ l) := by
 obtain ⟨v, i', s', e, hv, hi1, hi2⟩ := pick_d hc i s (l.length : Int) h0 h1 (by omega)
 unfold spec_l1Cur_of.f
 rw [e]
 simp only [Option.bind_some]
 rw [if_pos hv.1, if_pos (by omega)]
 refine ⟨_, _, _, rfl, ?_, hi1, hi2⟩
 obtain ⟨n, rfl⟩ := Int.eq_ofNat_of_zero_le hv.1
 have hn : n < l.length := by omega
 rw [rdOf_at _ _ _ hn]
 exact List.getElem_mem hn
theorem one_d {c : List Int} (hc : Bys c) (i s n : Int) (h0 : 0 ≤ i) (h1 : i ≤ 100000000000) (hn : n ≤ 1000000000) : Drawn i 2 (spec_l1Cur_one.f c i s n) (fun _ => True) := by
 obtain ⟨v, i', s', e, hv, hi1, hi2⟩ := pick_d hc i s n h0 h1 hn
 unfold spec_l1Cur_one.f
 rw [e]
 exact ⟨_, _, _, rfl, trivial, hi1, hi2⟩
theorem among_d {c : List Int} (hc : Bys c) (i s : Int) (l : List Int) (h0 : 0 ≤ i) (h1 : i ≤ 100000000000) (hl : 1 ≤ l.length ∧ l.length ≤ 1000000000) : Drawn i 2 (spec_l1Cur_among.f c i s l) (fun v => v ∈ l) := by
 obtain ⟨v, i', s', e, hv, hi1, hi2⟩ := pick_d hc i s (l.length : Int) h0 h1 (by omega)
 unfold spec_l1Cur_among.f
 rw [e]
 simp only [Option.bind_some]
 rw [if_pos hv.1, if_pos (by omega)]
 refine ⟨_, _, _, rfl, ?_, hi1, hi2⟩
 obtain ⟨n, rfl⟩ := Int.eq_ofNat_of_zero_le hv.1
 have hn : n < l.length := by omega
 unfold rd
 rw [List.getD_eq_getElem?_getD, Int.toNat_natCast, List.getElem?_eq_getElem hn]
 exact List.getElem_mem hn
end Go.Proofs.Ythhkkhnjkoacnaa.PC
end
section
namespace Go.Proofs.Ythhkkhnjkoacnaa.PG
open Go.RowKit Go.Proofs.YthhkkhnjkoacnaaW.PrintWords Go.Proofs.YthhkkhnjkoacnaaW.PrintLast Go.Proofs.YthhkkhnjkoacnaaW.PrintMore Go.Proofs.Ythhkkhnjkoacnaa.PB Go.Proofs.Ythhkkhnjkoacnaa.PL
set_option linter.unusedVariables false
theorem loop_up {β : Type} {r : β} (n : Nat) (S : Nat → Nat → Option β) (hend : Ev (S n) r) (hround : ∀ i, i < n → Ev (S (i + 1)) r → Ev (S i) r) : Ev (S 0) r := by
 have key : ∀ d i, i + d = n → Ev (S i) r := by
  intro d
  induction d with
  | zero => intro i hi; rw [show i = n by omega]; exact hend
  | succ d ih => intro i hi; exact hround i (by omega) (ih (i + 1) (by omega))
 exact key n 0 (by omega)
end Go.Proofs.Ythhkkhnjkoacnaa.PG
end
section
namespace Go.Proofs.Ythhkkhnjkoacnaa.PQ

end Go.Proofs.Ythhkkhnjkoacnaa.PQ
end
section
namespace Go.Proofs.Ythhkkhnjkoacnaa.PV

end Go.Proofs.Ythhkkhnjkoacnaa.PV
end
section
namespace Go.Proofs.Ythhkkhnjkoacnaa.PW
open Go.RowKit Go.Proofs.YthhkkhnjkoacnaaW.PrintWords Go.Proofs.YthhkkhnjkoacnaaW.PrintLast Go.Proofs.YthhkkhnjkoacnaaW.PrintMore Go.Proofs.Ythhkkhnjkoacnaa.PB Go.Proofs.Ythhkkhnjkoacnaa.PD Go.Proofs.Ythhkkhnjkoacnaa.PK Go.Proofs.Ythhkkhnjkoacnaa.PL Go.Proofs.Ythhkkhnjkoacnaa.PS Go.Proofs.Ythhkkhnjkoacnaa.PT Go.Proofs.Ythhkkhnjkoacnaa.PU Go.Proofs.Ythhkkhnjkoacnaa.PG Go.Proofs.Ythhkkhnjkoacnaa.PQ Go.Proofs.Ythhkkhnjkoacnaa.PV Go.Proofs.Ythhkkhnjkoacnaa.PA
set_option linter.unusedVariables false
noncomputable def ch (P : Prop) : Bool := @decide P (Classical.propDecidable P)
theorem ch_yes {P : Prop} (h : P) : ch P = true := @decide_eq_true P (Classical.propDecidable P) h
theorem ch_no {P : Prop} (h : ¬ P) : ch P = false := @decide_eq_false P (Classical.propDecidable P) h
theorem loop_yes {β : Type} (n : Nat) (S : Nat → Nat → Option β) (Q : Nat → Prop) (b : β) (hround : ∀ r i, i < n → Q i → Ev (S (i + 1)) r → Ev (S i) r) (hend : Ev (S n) b) (hq : ∀ i, i < n → Q i) : Ev (S 0) b :=
 loop_up n S hend (fun i hi h => hround b i hi (hq i hi) h)
theorem loop_no {β : Type} (n : Nat) (S : Nat → Nat → Option β) (Q : Nat → Prop) (no : β) (hround : ∀ r i, i < n → Q i → Ev (S (i + 1)) r → Ev (S i) r) (hno : ∀ i, i < n → ¬ Q i → Ev (S i) no) (hq : ¬ ∀ i, i < n → Q i) : Ev (S 0) no := by
 refine Classical.byContradiction fun hc => hq ?_
 have key : ∀ i, i ≤ n → (¬ Ev (S i) no) ∧ ∀ j, j < i → Q j := by
  intro i
  induction i with
  | zero => intro _; exact ⟨hc, fun j hj => absurd hj (Nat.not_lt_zero j)⟩
  | succ i ih =>
   intro hi
   obtain ⟨h1, h2⟩ := ih (by omega)
   have hQ : Q i := Classical.byContradiction fun h => h1 (hno i (by omega) h)
   refine ⟨fun h => h1 (hround no i (by omega) hQ h), fun j hj => ?_⟩
   by_cases e : j = i
   ·subst e; exact hQ
   ·exact h2 j (by omega)
 exact (key n (Nat.le_refl n)).2
theorem all_at (l : List ByteArray) (p : ByteArray → Bool) : l.all p = true ↔ ∀ i, i < l.length → p (rdOf ByteArray.empty l (i : Int)) = true := by
 rw [List.all_eq_true]
 constructor
 ·intro h i hi
  rw [rdOf_at _ _ _ hi]
  exact h _ (List.getElem_mem hi)
 ·intro h x hx
  obtain ⟨i, hi, e⟩ := List.getElem_of_mem hx
  have := h i hi
  rw [rdOf_at _ _ _ hi, e] at this
  exact this
abbrev tx (l : List ByteArray) (i : Nat) : ByteArray := rdOf ByteArray.empty l (i : Int)
end Go.Proofs.Ythhkkhnjkoacnaa.PW
end
section
namespace Go.Proofs.Ythhkkhnjkoacnaa.PE
open Go.RowKit Go.Proofs.YthhkkhnjkoacnaaW.PrintWords Go.Proofs.YthhkkhnjkoacnaaW.PrintLast Go.Proofs.YthhkkhnjkoacnaaW.PrintMore Go.Proofs.Ythhkkhnjkoacnaa.PB Go.Proofs.Ythhkkhnjkoacnaa.PD Go.Proofs.Ythhkkhnjkoacnaa.PK Go.Proofs.Ythhkkhnjkoacnaa.PL Go.Proofs.Ythhkkhnjkoacnaa.PS Go.Proofs.Ythhkkhnjkoacnaa.PT Go.Proofs.Ythhkkhnjkoacnaa.PU Go.Proofs.Ythhkkhnjkoacnaa.PG Go.Proofs.Ythhkkhnjkoacnaa.PC Go.Proofs.Ythhkkhnjkoacnaa.PW Go.Proofs.Ythhkkhnjkoacnaa.PA
set_option linter.unusedVariables false
theorem chainM_add (n : Nat) : ∀ (m i : Nat) (s : ByteArray), chainM (chainM s i m) (i + m) n = chainM s i (m + n) := by
 intro m
 induction m with
 | zero => intro i s; rw [Nat.zero_add]; rfl
 | succ m ih =>
  intro i s
  rw [show m + 1 + n = (m + n) + 1 by omega]
  have := ih (i + 1) (dig 99 (one (i : Int) ++ s))
  rw [show i + 1 + m = i + (m + 1) by omega] at this
  exact this
theorem message_d {c : List Int} (hc : Bys c) (i s : Int) (h0 : 0 ≤ i) (h1 : i ≤ 10000000000) : Drawn i 10 (spec_l1Cur_message.f c i s) (fun t => t.size ≤ 201) := by
 obtain ⟨b, i1, s1, e1, _, hi1, hi2⟩ := one_d hc i s 20 h0 (by omega) (by omega)
 unfold spec_l1Cur_message.f
 rw [e1]
 simp only [Option.bind_some]
 cases b with
 | true =>
  obtain ⟨v, i2, s2, e2, hv, hi3, hi4⟩ := pick_d hc i1 s1 2 (by omega) (by omega) (by omega)
  have ew : wrap64 (200 + v) = 200 + v := w64 (by omega) (by omega)
  simp only [if_true, e2, Option.bind_some]
  rw [ew, if_pos (by omega), if_pos (by omega)]
  refine ⟨_, i2, s2, rfl, ?_, by omega, by omega⟩
  show (strOfNums (List.replicate (200 + v).toNat 0)).size ≤ 201
  rw [strOfNums_size, List.length_replicate]; omega
 | false =>
  obtain ⟨v, i2, s2, e2, hv, hi3, hi4⟩ := of_d hc i1 s1 [⟨#[]⟩, ⟨#[97]⟩, ⟨#[98]⟩, ⟨#[112, 97, 121, 32, 53]⟩, ⟨#[112, 97, 121, 32, 54]⟩, ⟨#[97, 32, 114, 111, 111, 116]⟩] (by omega) (by omega) (by decide)
  have hz : v.size ≤ 201 := by
   simp only [List.mem_cons, List.not_mem_nil, or_false] at hv
   rcases hv with rfl | rfl | rfl | rfl | rfl | rfl <;> decide
  rw [if_neg (by simp), e2]
  exact ⟨v, i2, s2, rfl, hz, by omega, by omega⟩
end Go.Proofs.Ythhkkhnjkoacnaa.PE
end
section
namespace Go.Proofs.Ythhkkhnjkoacnaa.PX

end Go.Proofs.Ythhkkhnjkoacnaa.PX
end
section
namespace Go.Proofs.Ythhkkhnjkoacnaa.PY

end Go.Proofs.Ythhkkhnjkoacnaa.PY
end
section
namespace Go.Proofs.Ythhkkhnjkoacnaa.PH
open Go.RowKit Go.Proofs.YthhkkhnjkoacnaaW.PrintWords Go.Proofs.YthhkkhnjkoacnaaW.PrintLast Go.Proofs.YthhkkhnjkoacnaaW.PrintMore Go.Proofs.Ythhkkhnjkoacnaa.PB Go.Proofs.Ythhkkhnjkoacnaa.PL Go.Proofs.Ythhkkhnjkoacnaa.PG Go.Proofs.Ythhkkhnjkoacnaa.PW Go.Proofs.Ythhkkhnjkoacnaa.PX Go.Proofs.Ythhkkhnjkoacnaa.PY Go.Proofs.Ythhkkhnjkoacnaa.PA
set_option linter.unusedVariables false
theorem tx_ext (a b : List ByteArray) (h : a.length = b.length) (he : ∀ i, i < a.length → (tx a i).toList = (tx b i).toList) : a = b := by
 apply List.ext_getElem h
 intro i h1 h2
 have := ba_ext (he i h1)
 unfold tx at this
 rwa [rdOf_at _ _ _ h1, rdOf_at _ _ _ h2] at this
theorem sameTexts_d (a b : List ByteArray) (hl : a.length ≤ 2000000) : Ev (fun k => laws_sameTexts.f k a b) (ch (a = b)) := by
 unfold laws_sameTexts.f
 by_cases h : a.length = b.length
 ·refine ev_pos (by omega) ?_
  have round : ∀ (r : Bool) i, i < a.length → (tx a i).toList = (tx b i).toList → Ev (fun k => laws_sameTexts.l0 k a b (a.length : Int) ((i + 1 : Nat) : Int)) r → Ev (fun k => laws_sameTexts.l0 k a b (a.length : Int) (i : Int)) r := by
   intro r i hi hq h
   refine Ev.step (f := fun k => laws_sameTexts.l0 k a b (a.length : Int) ((i + 1 : Nat) : Int)) (fun k => ?_) h
   simp only [laws_sameTexts.l0]
   rw [if_pos (by omega), if_pos (by omega), if_pos (by omega), if_pos (by omega), if_pos hq, w64 (x := (i : Int) + 1) (by omega) (by omega)]
   rfl
  by_cases hA : ∀ i, i < a.length → (tx a i).toList = (tx b i).toList
  ·rw [ch_yes (tx_ext a b h hA)]
   exact loop_yes a.length (fun i k => laws_sameTexts.l0 k a b (a.length : Int) (i : Int)) _ true round (Ev.step (f := fun _ => some true) (fun k => by simp only [laws_sameTexts.l0]; rw [if_neg (by omega)]) (Ev.now _)) hA
  ·rw [ch_no (fun e => hA (fun i _ => by rw [e]))]
   refine loop_no a.length (fun i k => laws_sameTexts.l0 k a b (a.length : Int) (i : Int)) _ false round (fun i hi hq => ?_) hA
   refine Ev.step (f := fun _ => some false) (fun k => ?_) (Ev.now _)
   simp only [laws_sameTexts.l0]
   rw [if_pos (by omega), if_pos (by omega), if_pos (by omega), if_pos (by omega), if_neg hq]
 ·refine ev_neg (by omega) ?_
  rw [ch_no (fun e => h (by rw [e]))]
  exact Ev.now _
theorem sameTexts_yes (a : List ByteArray) (hl : a.length ≤ 2000000) : Ev (fun k => laws_sameTexts.f k a a) true := ev_eq (sameTexts_d a a hl) (ch_yes rfl)
end Go.Proofs.Ythhkkhnjkoacnaa.PH
end
section
namespace Go.Proofs.Ythhkkhnjkoacnaa.Pure
open Go.RowKit Go.Proofs.YthhkkhnjkoacnaaW.PrintWords Go.Proofs.YthhkkhnjkoacnaaW.PrintLast Go.Proofs.YthhkkhnjkoacnaaW.PrintMore Go.Proofs.Ythhkkhnjkoacnaa.PB Go.Proofs.Ythhkkhnjkoacnaa.PD Go.Proofs.Ythhkkhnjkoacnaa.PK Go.Proofs.Ythhkkhnjkoacnaa.PL Go.Proofs.Ythhkkhnjkoacnaa.PS Go.Proofs.Ythhkkhnjkoacnaa.PT Go.Proofs.Ythhkkhnjkoacnaa.PU Go.Proofs.Ythhkkhnjkoacnaa.PG Go.Proofs.Ythhkkhnjkoacnaa.PW Go.Proofs.Ythhkkhnjkoacnaa.PA
set_option linter.unusedVariables false
theorem k116 : Kd_ 116 := ⟨by decide, by decide⟩
theorem pairDS (a b : ByteArray) (ha : a.size ≤ 1000000) (hb : b.size ≤ 1000000) : Ev (fun k => spec_l3Pair.f k a b) (dig 116 (a ++ b)) :=
 ev_pos (by omega) (ev_bind (digS 116 k116 _ (by rw [app_size]; omega)) (Ev.now _))
theorem pairDI (a b : ByteArray) (ha : a.size ≤ 1000000) (hb : b.size ≤ 1000000) : Ev (fun k => impl_pair.f k a b) (dig 116 (a ++ b)) :=
 ev_pos (by omega) (ev_bind (digI 116 k116 _ (by rw [app_size]; omega)) (Ev.now _))
theorem four_at {l : List ByteArray} (h : all4 l = true) (i : Nat) (hi : i < l.length) : (rdOf ByteArray.empty l (i : Int)).size = 4 := of_decide_eq_true ((all_at l _).1 h i hi)
theorem top_two (l : List ByteArray) (h : all4 l = true) (hl : l.length ≤ 2000000) (no : Int) (leaf : ByteArray) (hz : leaf.size = 4) : ∃ r, Ev (fun k => spec_l3Top.f k no leaf l) r ∧ Ev (fun k => impl_topFrom.f k no leaf l) r := by
 have key : ∀ (d i : Nat) (x : Int) (t : ByteArray), i + d = l.length → t.size = 4 → ∃ r, Ev (fun k => spec_l3Top.l0 k x t l (l.length : Int) (i : Int)) r ∧ Ev (fun k => impl_topFrom.l0 k x t l (l.length : Int) (i : Int)) r := by
  intro d
  induction d with
  | zero =>
   intro i x t hi ht
   exact ⟨t, Ev.step (f := fun _ => some t) (fun k => by simp only [spec_l3Top.l0]; rw [if_neg (by omega)]) (Ev.now _), Ev.step (f := fun _ => some t) (fun k => by simp only [impl_topFrom.l0]; rw [if_neg (by omega)]) (Ev.now _)⟩
  | succ d ih =>
   intro i x t hi ht
   have hlt : i < l.length := by omega
   have h4 := four_at h i hlt
   have s1 : ∀ {r : ByteArray}, Ev (fun k => if Int.tmod x 2 = 0 then ((spec_l3Pair.f k t (rdOf ByteArray.empty l (i : Int))).bind fun u => spec_l3Top.l0 k (wrap64 (Int.tdiv x 2)) u l (l.length : Int) ((i + 1 : Nat) : Int)) else ((spec_l3Pair.f k (rdOf ByteArray.empty l (i : Int)) t).bind fun u => spec_l3Top.l0 k (wrap64 (Int.tdiv x 2)) u l (l.length : Int) ((i + 1 : Nat) : Int))) r → Ev (fun k => spec_l3Top.l0 k x t l (l.length : Int) (i : Int)) r := by
    intro r hr
    refine Ev.step (fun k => ?_) hr
    simp only [spec_l3Top.l0]
    rw [if_pos (by omega), if_pos (by omega), if_pos (by omega), w64 (x := (i : Int) + 1) (by omega) (by omega)]
    rfl
   have s2 : ∀ {r : ByteArray}, Ev (fun k => if Int.tmod x 2 = 0 then ((impl_pair.f k t (rdOf ByteArray.empty l (i : Int))).bind fun u => impl_topFrom.l0 k (wrap64 (Int.tdiv x 2)) u l (l.length : Int) ((i + 1 : Nat) : Int)) else ((impl_pair.f k (rdOf ByteArray.empty l (i : Int)) t).bind fun u => impl_topFrom.l0 k (wrap64 (Int.tdiv x 2)) u l (l.length : Int) ((i + 1 : Nat) : Int))) r → Ev (fun k => impl_topFrom.l0 k x t l (l.length : Int) (i : Int)) r := by
    intro r hr
    refine Ev.step (fun k => ?_) hr
    simp only [impl_topFrom.l0]
    rw [if_pos (by omega), if_pos (by omega), if_pos (by omega), w64 (x := (i : Int) + 1) (by omega) (by omega)]
    rfl
   by_cases c : Int.tmod x 2 = 0
   ·obtain ⟨r, h1, h2⟩ := ih (i + 1) (wrap64 (Int.tdiv x 2)) (dig 116 (t ++ rdOf ByteArray.empty l (i : Int))) (by omega) (dig_size _ _)
    exact ⟨r, s1 (ev_pos c (ev_bind (pairDS _ _ (by omega) (by omega)) h1)), s2 (ev_pos c (ev_bind (pairDI _ _ (by omega) (by omega)) h2))⟩
   ·obtain ⟨r, h1, h2⟩ := ih (i + 1) (wrap64 (Int.tdiv x 2)) (dig 116 (rdOf ByteArray.empty l (i : Int) ++ t)) (by omega) (dig_size _ _)
    exact ⟨r, s1 (ev_neg c (ev_bind (pairDS _ _ (by omega) (by omega)) h1)), s2 (ev_neg c (ev_bind (pairDI _ _ (by omega) (by omega)) h2))⟩
 exact key l.length 0 no leaf (by omega) hz
theorem fourS (l : List ByteArray) (n : Int) (hl : l.length ≤ 4000000000000000000) : Ev (fun k => spec_l3Four.f k l n) (decide ((l.length : Int) = n) && all4 l) := by
 have round : ∀ (r : Bool) i, i < l.length → (tx l i).size = 4 → Ev (fun k => spec_l3Four.l0 k l n l (l.length : Int) ((i + 1 : Nat) : Int)) r → Ev (fun k => spec_l3Four.l0 k l n l (l.length : Int) (i : Int)) r := by
  intro r i hi hq h
  have hq' : (rdOf ByteArray.empty l (i : Int)).size = 4 := hq
  refine Ev.step (f := fun k => spec_l3Four.l0 k l n l (l.length : Int) ((i + 1 : Nat) : Int)) (fun k => ?_) h
  simp only [spec_l3Four.l0]
  rw [if_pos (by omega), if_pos (by omega), if_pos (by omega), if_pos (by omega), w64 (x := (i : Int) + 1) (by omega) (by omega)]
  rfl
 by_cases hA : ∀ i, i < l.length → (tx l i).size = 4
 ·have h4 : all4 l = true := (all_at l _).2 (fun i hi => decide_eq_true (hA i hi))
  refine loop_yes l.length (fun i k => spec_l3Four.l0 k l n l (l.length : Int) (i : Int)) _ _ round ?_ hA
  refine Ev.step (f := fun _ => some ((l.length : Int) == n)) (fun k => by simp only [spec_l3Four.l0]; rw [if_neg (by omega)]) (ev_eq (Ev.now _) ?_)
  rw [h4, Bool.and_true]; rfl
 ·have h4 : all4 l = false := by
   cases e : all4 l with
   | false => rfl
   | true => exact absurd (fun i hi => four_at e i hi) hA
  refine ev_eq (loop_no l.length (fun i k => spec_l3Four.l0 k l n l (l.length : Int) (i : Int)) _ false round (fun i hi hq => ?_) hA) (by rw [h4, Bool.and_false])
  have hq' : ¬ (rdOf ByteArray.empty l (i : Int)).size = 4 := hq
  refine Ev.step (f := fun _ => some false) (fun k => ?_) (Ev.now _)
  simp only [spec_l3Four.l0]
  rw [if_pos (by omega), if_pos (by omega), if_pos (by omega), if_neg (by omega)]
def noB (n : Int) : Bool := decide (0 ≤ n ∧ n ≤ 7)
theorem noS (n : Int) : spec_l3No.f n = some (noB n) := by unfold spec_l3No.f; rw [inS]; rfl
theorem useI (n : Int) : impl_isUse.f n = some (noB n) := by unfold impl_isUse.f; rw [inI]; rfl
theorem fromM_size (t : ByteArray) (l : List ByteArray) : (fromM t l).size = 4 := dig_size _ _
theorem checkSeal_two (top text : ByteArray) (n : Int) (sg way : List ByteArray) (hs : sg.length ≤ 2000000) (hw : way.length ≤ 2000000) : ∃ r, Ev (fun k => spec_CheckSeal.f k top text n sg way) r ∧ Ev (fun k => impl_CheckSeal.f k top text n sg way) r := by
 have yS : Ev (fun k => spec_CheckSeal.j0 k top text true n sg way) (false, false) := Ev.step (f := fun _ => some (false, false)) (fun k => by simp only [spec_CheckSeal.j0]; rw [if_pos trivial]) (Ev.now _)
 have yI : Ev (fun k => impl_CheckSeal.j0 k top text true n sg way) (false, false) := Ev.step (f := fun _ => some (false, false)) (fun k => by simp only [impl_CheckSeal.j0]; rw [if_pos trivial]) (Ev.now _)
 have hG := good11S sg (by omega)
 have hW := fourS way 3 (by omega)
 have hI := isSignI text sg (by omega)
 have hA := areDigI way 3 (by omega)
 by_cases h1 : top.size = 4
 ·by_cases h2 : (text.size : Int) ≤ 200
  ·cases h3 : noB n with
   | false =>
    refine ⟨(false, false), ev_pos (by omega) (ev_const (longS text) (ev_pos (decide_eq_true h2) (ev_bind (a := false) ?_ yS))), ev_const (isDigI top) (ev_pos (decide_eq_true h1) (ev_const (useI n) (ev_neg (by simp [h3]) yI)))⟩
    exact ev_const (noS n) (ev_neg (by simp [h3]) (Ev.now _))
   | true =>
    cases h4 : (decide ((sg.length : Int) = 11) && all4 sg) with
    | false =>
     rw [h4] at hG
     have e : okSign text sg = false := by unfold okSign; rw [h4, Bool.and_false]
     rw [e] at hI
     refine ⟨(false, false), ev_pos (by omega) (ev_const (longS text) (ev_pos (decide_eq_true h2) (ev_bind (a := false) ?_ yS))), ev_const (isDigI top) (ev_pos (decide_eq_true h1) (ev_const (useI n) (ev_pos h3 (ev_bind hI (ev_neg (by simp) yI)))))⟩
     exact ev_const (noS n) (ev_pos h3 (ev_bind hG (ev_neg (by simp) (Ev.now _))))
    | true =>
     rw [h4] at hG
     have e : okSign text sg = true := by unfold okSign; rw [h4, decide_eq_true h2]; rfl
     have hg := okSign_good e
     rw [e] at hI
     cases h5 : (decide ((way.length : Int) = 3) && all4 way) with
     | false =>
      rw [h5] at hW hA
      refine ⟨(false, false), ev_pos (by omega) (ev_const (longS text) (ev_pos (decide_eq_true h2) (ev_bind (a := false) ?_ yS))), ev_const (isDigI top) (ev_pos (decide_eq_true h1) (ev_const (useI n) (ev_pos h3 (ev_bind hI (ev_pos rfl (ev_bind hA yI))))))⟩
      exact ev_const (noS n) (ev_pos h3 (ev_bind hG (ev_pos rfl (ev_bind hW (Ev.now _)))))
     | true =>
      rw [h5] at hW hA
      rw [Bool.and_eq_true] at h5
      obtain ⟨r, t1, t2⟩ := top_two way h5.2 hw n (fromM text sg) (fromM_size _ _)
      refine ⟨(r.toList == top.toList, true), ev_pos (by omega) (ev_const (longS text) (ev_pos (decide_eq_true h2) (ev_bind (a := true) ?_ ?_))), ev_const (isDigI top) (ev_pos (decide_eq_true h1) (ev_const (useI n) (ev_pos h3 (ev_bind hI (ev_pos rfl (ev_bind hA ?_))))))⟩
      ·exact ev_const (noS n) (ev_pos h3 (ev_bind hG (ev_pos rfl (ev_bind hW (Ev.now _)))))
      ·refine Ev.step (f := fun k => (spec_l2From.f k text sg).bind fun t464 => ((spec_l3Top.f k n t464 way).bind fun t465 => (some ((t465.toList == top.toList), true)))) (fun k => by simp only [Bool.not_true, spec_CheckSeal.j0]; rw [if_neg (by simp)]) ?_
       exact ev_bind (fromS text sg (by omega) hg.2) (ev_bind t1 (Ev.now _))
      ·refine Ev.step (f := fun k => (impl_publicFrom.f k text sg).bind fun t464 => ((impl_topFrom.f k n t464 way).bind fun t465 => (some ((t465.toList == top.toList), true)))) (fun k => by simp only [Bool.not_true, impl_CheckSeal.j0]; rw [if_neg (by simp)]) ?_
       exact ev_bind (fromI text sg (by omega) hg.2) (ev_bind t2 (Ev.now _))
  ·refine ⟨(false, false), ev_pos (by omega) (ev_const (longS text) (ev_neg (by simp [h2]) yS)), ev_const (isDigI top) (ev_pos (decide_eq_true h1) (ev_const (useI n) ?_))⟩
   have e : okSign text sg = false := by unfold okSign; rw [decide_eq_false h2]; rfl
   rw [e] at hI
   cases h3 : noB n with
   | false => exact ev_neg (by simp) yI
   | true => exact ev_pos rfl (ev_bind hI (ev_neg (by simp) yI))
 ·exact ⟨(false, false), ev_neg (by omega) yS, ev_const (isDigI top) (ev_neg (by simp [h1]) yI)⟩
end Go.Proofs.Ythhkkhnjkoacnaa.Pure
end
section
namespace Go.Proofs.Ythhkkhnjkoacnaa.QU
open Go.RowKit Go.Proofs.YthhkkhnjkoacnaaW.PrintWords Go.Proofs.YthhkkhnjkoacnaaW.PrintLast Go.Proofs.YthhkkhnjkoacnaaW.PrintMore Go.Proofs.Ythhkkhnjkoacnaa.PB Go.Proofs.Ythhkkhnjkoacnaa.PD Go.Proofs.Ythhkkhnjkoacnaa.PK Go.Proofs.Ythhkkhnjkoacnaa.PL Go.Proofs.Ythhkkhnjkoacnaa.PS Go.Proofs.Ythhkkhnjkoacnaa.PT Go.Proofs.Ythhkkhnjkoacnaa.PU Go.Proofs.Ythhkkhnjkoacnaa.PC Go.Proofs.Ythhkkhnjkoacnaa.PW Go.Proofs.Ythhkkhnjkoacnaa.PE Go.Proofs.Ythhkkhnjkoacnaa.QJ Go.Proofs.Ythhkkhnjkoacnaa.PA
set_option linter.unusedVariables false
theorem sign_at (seed text : ByteArray) (i : Nat) (h : i < 11) : (signM seed text).getD i ⟨#[]⟩ = signAt seed text i := by
 rw [List.getD_eq_getElem?_getD, List.getElem?_eq_getElem (by rw [signM_length]; exact h)]
 simp [signM]
theorem from_sign (seed text : ByteArray) : fromM text (signM seed text) = publicM seed := by
 unfold fromM publicM
 have e : (List.range 11).map (fromAt text (signM seed text)) = (List.range 11).map (pubAt seed) := by
  apply List.map_congr_left
  intro i hi
  have hi' : i < 11 := List.mem_range.1 hi
  have hr := rd_digits text i hi'
  unfold fromAt
  rw [sign_at seed text i hi']
  unfold signAt pubAt
  have := chainM_add (15 - rd (digitsM text) (i : Int)).toNat (rd (digitsM text) (i : Int)).toNat 0 (keyM seed i)
  rw [Nat.zero_add] at this
  rw [this]
  congr 1
  omega
 rw [e]
theorem sign_good (seed text : ByteArray) (ht : (text.size : Int) ≤ 200) : okSign text (signM seed text) = true := by
 unfold okSign
 rw [decide_eq_true ht, decide_eq_true (by rw [signM_length]; rfl), Bool.true_and, Bool.true_and]
 refine (all4_iff _).2 ?_
 intro s hs
 obtain ⟨i, _, rfl⟩ := List.mem_map.1 hs
 exact chainM_size _ (keyM_size _ _) _ _
def climb : Nat → ByteArray → List ByteArray → ByteArray
 | _, t, [] => t
 | n, t, s :: l => climb (n / 2) (if n % 2 = 0 then dig 116 (t ++ s) else dig 116 (s ++ t)) l
theorem mod2 (n : Nat) : Int.tmod (n : Int) 2 = ((n % 2 : Nat) : Int) := by rw [Int.tmod_eq_emod_of_nonneg (by omega)]; omega
theorem topI (l : List ByteArray) (h4 : All4 l) (hl : l.length ≤ 100) (n : Nat) (hn : n < 8) (t : ByteArray) (ht : t.size = 4) : Ev (fun k => impl_topFrom.f k (n : Int) t l) (climb n t l) := by
 have key : ∀ (d i n : Nat) (t : ByteArray), i + d = l.length → n < 8 → t.size = 4 → Ev (fun k => impl_topFrom.l0 k (n : Int) t l (l.length : Int) (i : Int)) (climb n t (l.drop i)) := by
  intro d
  induction d with
  | zero =>
   intro i n t hi hn ht
   rw [List.drop_eq_nil_of_le (by omega)]
   exact Ev.step (f := fun _ => some t) (fun k => by simp only [impl_topFrom.l0]; rw [if_neg (by omega)]) (Ev.now _)
  | succ d ih =>
   intro i n t hi hn ht
   have hlt : i < l.length := by omega
   have z := four_of h4 i hlt
   rw [List.drop_eq_getElem_cons hlt]
   have r := ih (i + 1) (n / 2) (if n % 2 = 0 then dig 116 (t ++ l[i]) else dig 116 (l[i] ++ t)) (by omega) (by omega) (by split <;> exact dig_size _ _)
   show Ev _ (climb (n / 2) (if n % 2 = 0 then dig 116 (t ++ l[i]) else dig 116 (l[i] ++ t)) (l.drop (i + 1)))
   refine Ev.step (f := fun k => if ((n % 2 : Nat) : Int) = 0 then ((impl_pair.f k t l[i]).bind fun u => impl_topFrom.l0 k ((n / 2 : Nat) : Int) u l (l.length : Int) ((i + 1 : Nat) : Int)) else ((impl_pair.f k l[i] t).bind fun u => impl_topFrom.l0 k ((n / 2 : Nat) : Int) u l (l.length : Int) ((i + 1 : Nat) : Int))) (fun k => ?_) ?_
   ·simp only [impl_topFrom.l0]
    rw [if_pos (by omega), if_pos (by omega), if_pos (by omega), mod2, half n hn, wp3 i (by omega), rdOf_at _ l i hlt]
   ·by_cases c : n % 2 = 0
    ·rw [if_pos c] at r ⊢
     exact ev_pos (by omega) (ev_bind (QJ.pairDI t l[i] (by omega) (by omega)) r)
    ·rw [if_neg c] at r ⊢
     exact ev_neg (by omega) (ev_bind (QJ.pairDI l[i] t (by omega) (by omega)) r)
 have := key l.length 0 n t (by omega) hn ht
 rw [List.drop_zero] at this
 exact this
theorem next_at : ∀ (m : Nat) (l : List ByteArray) (j : Nat), l.length = 2 * m → j < m → rdOf ByteArray.empty (nextL l) (j : Int) = dig 116 (rdOf ByteArray.empty l ((2 * j : Nat) : Int) ++ rdOf ByteArray.empty l ((2 * j + 1 : Nat) : Int)) := by
 intro m
 induction m with
 | zero => intro l j _ hj; omega
 | succ m ih => intro l j hl hj; match l with
  | [] => exact absurd hl (by simp only [List.length_nil]; omega)
  | [a] => exact absurd hl (by simp only [List.length_cons, List.length_nil]; omega)
  | a :: b :: l =>
   have hl' : l.length = 2 * m := by simp only [List.length_cons] at hl; omega
   rw [rdOf_getD, rdOf_getD, rdOf_getD]
   show (dig 116 (a ++ b) :: nextL l).getD j ⟨#[]⟩ = _
   cases j with
   | zero => rfl
   | succ j =>
    have := ih l j hl' (by omega)
    rw [rdOf_getD, rdOf_getD, rdOf_getD] at this
    rw [show 2 * (j + 1) = 2 * j + 1 + 1 by omega]
    simp only [List.getD_cons_succ]
    exact this
theorem step_up (l : List ByteArray) (m n : Nat) (hl : l.length = 2 * m) (hn : n < 2 * m) : (if n % 2 = 0 then dig 116 (rdOf ByteArray.empty l (n : Int) ++ rdOf ByteArray.empty l (sib n : Int)) else dig 116 (rdOf ByteArray.empty l (sib n : Int) ++ rdOf ByteArray.empty l (n : Int))) = rdOf ByteArray.empty (nextL l) ((n / 2 : Nat) : Int) := by
 rw [next_at m l (n / 2) hl (by omega)]
 unfold sib
 by_cases c : n % 2 = 0
 ·rw [if_pos c, if_pos c, show 2 * (n / 2) = n by omega]
 ·rw [if_neg c, if_neg c, show 2 * (n / 2) + 1 = n by omega, show 2 * (n / 2) = n - 1 by omega]
theorem leaf_at (seed : ByteArray) (n : Nat) (hn : n < 8) : rdOf ByteArray.empty (leavesM seed) (n : Int) = leafM seed n := by
 rw [rdOf_at _ _ n (by rw [leaves_len]; exact hn)]; simp [leavesM]
theorem climb_top (seed : ByteArray) (n : Nat) (hn : n < 8) : climb n (leafM seed n) (wayM seed n) = topM seed := by
 unfold wayM
 rw [← leaf_at seed n hn]
 show climb (n / 2 / 2 / 2) (if n / 2 / 2 % 2 = 0 then _ else _) [] = _
 rw [step_up (leavesM seed) 4 n (leaves_len seed) (by omega), show nextL (leavesM seed) = row1 seed from rfl, step_up (row1 seed) 2 (n / 2) (row1_len seed) (by omega), show nextL (row1 seed) = row2 seed from rfl, step_up (row2 seed) 1 (n / 2 / 2) (row2_len seed) (by omega), show n / 2 / 2 / 2 = 0 by omega]
 rfl
theorem rd4 {l : List ByteArray} (h : All4 l) (i : Nat) (hi : i < l.length) : (rdOf ByteArray.empty l (i : Int)).size = 4 := by rw [rdOf_at _ l i hi]; exact four_of h i hi
theorem way4 (seed : ByteArray) (n : Nat) (hn : n < 8) : All4 (wayM seed n) := by
 have l0 := leaves_len seed
 have l1 := row1_len seed
 have l2 := row2_len seed
 have s1 := sib_lt n 4 (by omega)
 have s2 := sib_lt (n / 2) 2 (by omega)
 have s3 := sib_lt (n / 2 / 2) 1 (by omega)
 intro s hs
 unfold wayM at hs
 simp only [List.mem_cons, List.not_mem_nil, or_false] at hs
 rcases hs with rfl | rfl | rfl
 ·exact rd4 (leaves4 seed) _ (by omega)
 ·have a1 : All4 (row1 seed) := next4 8 _ (by omega)
  exact rd4 a1 _ (by omega)
 ·have a2 : All4 (row2 seed) := next4 4 _ (by omega)
  exact rd4 a2 _ (by omega)
theorem topM_size (seed : ByteArray) : (topM seed).size = 4 := by
 have l2 := row2_len seed
 have l3 := row3_len seed
 have a3 : All4 (row3 seed) := next4 2 _ (by omega)
 exact rd4 a3 0 (by omega)
theorem sealed_held (seed text : ByteArray) (n : Nat) (hn : n < 8) (hs : seed.size ≤ 1000) (ht : (text.size : Int) ≤ 200) : Ev (fun k => impl_CheckSeal.f k (topM seed) text (n : Int) (signM (seed ++ one (n : Int)) text) (wayM seed n)) (true, true) := by
 have hg := sign_good (seed ++ one (n : Int)) text ht
 have hsg := isSignI text (signM (seed ++ one (n : Int)) text) (by rw [signM_length]; omega)
 rw [hg] at hsg
 have h4 : all4 (wayM seed n) = true := (all4_iff _).2 (way4 seed n hn)
 have hw := areDigI (wayM seed n) 3 (by rw [wayM_len]; omega)
 rw [h4, decide_eq_true (by rw [wayM_len]; rfl)] at hw
 have hp := fromI text (signM (seed ++ one (n : Int)) text) (by omega) (okSign_good hg).2
 rw [from_sign] at hp
 have hc := topI (wayM seed n) (way4 seed n hn) (by rw [wayM_len]; omega) n hn (leafM seed n) (leafM_size _ _)
 rw [climb_top seed n hn] at hc
 refine ev_const (isDigI _) (ev_pos (decide_eq_true (topM_size seed)) (ev_const (Pure.useI _) (ev_pos (by unfold Pure.noB; exact decide_eq_true (by omega)) (ev_bind hsg (ev_pos rfl (ev_bind hw ?_))))))
 refine Ev.step (f := fun k => (impl_publicFrom.f k text (signM (seed ++ one (n : Int)) text)).bind fun t => (impl_topFrom.f k (n : Int) t (wayM seed n)).bind fun u => some (u.toList == (topM seed).toList, true)) (fun k => by simp only [Bool.and_self, Bool.not_true, impl_CheckSeal.j0]; rw [if_neg (by simp)]) (ev_bind hp (ev_bind hc (ev_eq (Ev.now _) ?_)))
 rw [beq_self_eq_true]
def leftM (seed : ByteArray) (u : Int) : Int × Bool := if goodSg seed u = true then (8 - u, true) else (0, false)
theorem leftI (seed : ByteArray) (u : Int) : impl_LeftIn.f seed u = some (leftM seed u) := by
 unfold impl_LeftIn.f leftM
 rw [goodSgI, Option.bind_some]
 by_cases g : goodSg seed u = true
 ·obtain ⟨_, h0, h8⟩ := goodSg_facts g
  rw [if_pos g, if_pos g, w64 (by omega) (by omega)]
 ·rw [if_neg g, if_neg g]
theorem leftS (seed : ByteArray) (u : Int) : spec_LeftIn.f seed u = some (leftM seed u) := by
 unfold spec_LeftIn.f leftM
 rw [goodSgS, Option.bind_some]
 by_cases g : goodSg seed u = true
 ·obtain ⟨_, h0, h8⟩ := goodSg_facts g
  rw [if_pos g, if_pos g, w64 (by omega) (by omega)]
 ·rw [if_neg g, if_neg g]
def seedOk (seed : ByteArray) : Bool := decide (1 ≤ (seed.size : Int) ∧ (seed.size : Int) ≤ 8)
def topOfM (seed : ByteArray) : ByteArray × Bool := if seedOk seed = true then (topM seed, true) else (⟨#[]⟩, false)
theorem seedOk_size {seed : ByteArray} (h : seedOk seed = true) : seed.size ≤ 8 := by have := of_decide_eq_true h; omega
theorem topOfI (seed : ByteArray) : Ev (fun k => impl_TopOf.f k seed) (topOfM seed) := by
 have e : impl_isSeed.f seed 8 = some (seedOk seed) := by unfold impl_isSeed.f; rw [inI]; rfl
 unfold topOfM
 by_cases h : seedOk seed = true
 ·have hz := seedOk_size h
  rw [if_pos h]
  exact ev_const e (ev_pos h (ev_bind (wayI seed 0 (by omega) (by omega)) (Ev.now _)))
 ·rw [if_neg h]
  exact ev_const e (ev_neg h (Ev.now _))
theorem topOfS (seed : ByteArray) : Ev (fun k => spec_TopOf.f k seed) (topOfM seed) := by
 have e : spec_l3Seed.f seed = some (seedOk seed) := by unfold spec_l3Seed.f; rw [inS]; rfl
 unfold topOfM
 by_cases h : seedOk seed = true
 ·have hz := seedOk_size h
  have l3 := row3_len seed
  rw [if_pos h]
  refine ev_const e (ev_pos h (ev_bind (rowsS seed (by omega)) (ev_pos (by show (3 : Int) < 4; omega) (ev_pos ?_ (Ev.now _)))))
  show (0 : Int) < ((row3 seed).length : Int)
  omega
 ·rw [if_neg h]
  exact ev_const e (ev_neg h (Ev.now _))
theorem signer_d {c : List Int} (hc : Bys c) (i s : Int) (h0 : 0 ≤ i) (h1 : i ≤ 10000000000) : ∃ a u i' s', spec_l1Cur_signer.f c i s = some (a, u, i', s') ∧ a.size ≤ 9 ∧ i ≤ i' ∧ i' ≤ i + 10 := by
 obtain ⟨a, i2, s2, e2, ha, h2, h3⟩ := of_d hc i s [(⟨#[115, 101, 101, 100]⟩ : ByteArray), (⟨#[111, 116, 104, 101, 114]⟩ : ByteArray), (⟨#[120]⟩ : ByteArray)] h0 (by omega) ⟨by simp, by simp⟩
 obtain ⟨u, i3, s3, e3, hu, h4, h5⟩ := pick_d hc i2 s2 9 (by omega) (by omega) (by omega)
 obtain ⟨v, i4, s4, e4, hv, h6, h7⟩ := pick_d hc i3 s3 20 (by omega) (by omega) (by omega)
 have za : a.size ≤ 9 := by
  simp only [List.mem_cons, List.not_mem_nil, or_false] at ha
  rcases ha with rfl | rfl | rfl <;> decide
 unfold spec_l1Cur_signer.f
 rw [e2]; simp only [Option.bind_some]
 rw [e3]; simp only [Option.bind_some]
 rw [e4]; simp only [Option.bind_some]
 by_cases c0 : v = 0
 ·obtain ⟨b, i5, s5, e5, hb, h8, h9⟩ := of_d hc i4 s4 [(⟨#[]⟩ : ByteArray), (⟨#[110, 105, 110, 101, 32, 98, 121, 116, 101]⟩ : ByteArray)] (by omega) (by omega) ⟨by simp, by simp⟩
  rw [if_pos c0, e5]
  refine ⟨b, u, i5, s5, rfl, ?_, by omega, by omega⟩
  simp only [List.mem_cons, List.not_mem_nil, or_false] at hb
  rcases hb with rfl | rfl <;> decide
 ·rw [if_neg c0]
  by_cases c1 : v = 1
  ·obtain ⟨b, i5, s5, e5, hb, h8, h9⟩ := among_d hc i4 s4 [-1, 8, 9] (by omega) (by omega) ⟨by simp, by simp⟩
   rw [if_pos c1, e5]
   exact ⟨a, b, i5, s5, rfl, za, by omega, by omega⟩
  ·rw [if_neg c1]
   exact ⟨a, u, i4, s4, rfl, za, by omega, by omega⟩
theorem drawSeal {c : List Int} (hc : Bys c) : ∃ a u t, spec_DrawSealText.f c = some (a, u, t) := by
 obtain ⟨a, u, i, s, e, _, h1, h2⟩ := signer_d hc 0 0 (by omega) (by omega)
 obtain ⟨t, i2, s2, e2, _, _⟩ := message_d hc i s (by omega) (by omega)
 unfold spec_DrawSealText.f
 rw [e]; simp only [Option.bind_some]
 rw [e2]
 exact ⟨a, u, t, rfl⟩
theorem drawCheck {c : List Int} (hc : Bys c) : ∃ top t n A B, Ev (fun k => spec_DrawCheckSeal.f k c) (top, t, n, A, B) ∧ A.length ≤ 11 ∧ B.length ≤ 3 := by
 obtain ⟨a, u, i, s, e, _, h1, h2⟩ := signer_d hc 0 0 (by omega) (by omega)
 obtain ⟨t, i2, s2, e2, ht, h3, h4⟩ := message_d hc i s (by omega) (by omega)
 obtain ⟨v, i3, s3, e3, hv, h5, h6⟩ := pick_d hc i2 s2 8 (by omega) (by omega) (by omega)
 obtain ⟨l1, l2⟩ := sealM_len a u t
 have hS := sealS a u t
 have hT := topOfS a
 have hok : (sealM a u t).2.2.2.2.2 = true → (sealM a u t).2.2.2.2.1.length = 3 := by
  unfold sealM
  split
  ·intro _; exact wayM_len _ _
  ·intro h; cases h
 have main : ∀ {r : ByteArray × ByteArray × Int × List ByteArray × List ByteArray}, Ev (fun k => if v = 0 then (if t.size + 1 ≤ 9223372036854775807 then (some ((topOfM a).1, t ++ (⟨#[33]⟩ : ByteArray), (sealM a u t).2.2.1, (sealM a u t).2.2.2.1, (sealM a u t).2.2.2.2.1)) else (none)) else (if v = 1 then ((spec_l1Cur_pick.f c i3 s3 10).bind fun bt431 => (some ((topOfM a).1, t, wrap64 (bt431.1 - 1), (sealM a u t).2.2.2.1, (sealM a u t).2.2.2.2.1))) else (if v = 2 then (if (sealM a u t).2.2.2.2.2 = true then (if 0 < ((sealM a u t).2.2.2.2.1.length : Int) then (some ((topOfM a).1, t, (sealM a u t).2.2.1, (sealM a u t).2.2.2.1, ((sealM a u t).2.2.2.2.1.set (0 : Int).toNat (⟨#[97, 98, 99, 100]⟩ : ByteArray)))) else (none)) else (some ((topOfM a).1, t, (sealM a u t).2.2.1, (sealM a u t).2.2.2.1, (sealM a u t).2.2.2.2.1))) else (some ((topOfM a).1, t, (sealM a u t).2.2.1, (sealM a u t).2.2.2.1, (sealM a u t).2.2.2.2.1))))) r → Ev (fun k => spec_DrawCheckSeal.f k c) r := by
  intro r hr
  exact ev_const e (ev_const e2 (ev_bind hS (ev_bind hT (ev_const e3 hr))))
 by_cases c0 : v = 0
 ·exact ⟨_, _, _, _, _, main (ev_pos c0 (ev_pos (by omega) (Ev.now _))), l1, l2⟩
 ·by_cases c1 : v = 1
  ·obtain ⟨x, i4, s4, e4, _⟩ := pick_d hc i3 s3 10 (by omega) (by omega) (by omega)
   exact ⟨_, _, _, _, _, main (ev_neg c0 (ev_pos c1 (ev_const e4 (Ev.now _)))), l1, l2⟩
  ·by_cases c2 : v = 2
   ·by_cases ho : (sealM a u t).2.2.2.2.2 = true
    ·exact ⟨_, _, _, _, _, main (ev_neg c0 (ev_neg c1 (ev_pos c2 (ev_pos ho (ev_pos (by have := hok ho; omega) (Ev.now _)))))), l1, by rw [List.length_set]; exact l2⟩
    ·exact ⟨_, _, _, _, _, main (ev_neg c0 (ev_neg c1 (ev_pos c2 (ev_neg ho (Ev.now _))))), l1, l2⟩
   ·exact ⟨_, _, _, _, _, main (ev_neg c0 (ev_neg c1 (ev_neg c2 (Ev.now _)))), l1, l2⟩
end Go.Proofs.Ythhkkhnjkoacnaa.QU
end
section
namespace Go.Proofs.Ythhkkhnjkoacnaa.Pure
open Go.RowKit Go.Proofs.YthhkkhnjkoacnaaW.PrintWords Go.Proofs.YthhkkhnjkoacnaaW.PrintLast Go.Proofs.YthhkkhnjkoacnaaW.PrintMore Go.Proofs.Ythhkkhnjkoacnaa.PB Go.Proofs.Ythhkkhnjkoacnaa.PD Go.Proofs.Ythhkkhnjkoacnaa.PC Go.Proofs.Ythhkkhnjkoacnaa.PS Go.Proofs.Ythhkkhnjkoacnaa.QJ Go.Proofs.Ythhkkhnjkoacnaa.QU Go.Proofs.Ythhkkhnjkoacnaa.PA
set_option linter.unusedVariables false
theorem sealsTail {c : List Int} (hc : Bys c) : Ev (fun k => laws_FnSeals.j2 k c false) true := by
 obtain ⟨top, t, n, A, B, hd, h1, h2⟩ := drawCheck hc
 obtain ⟨r, hS, hI⟩ := checkSeal_two top t n A B (by omega) (by omega)
 refine Ev.step (f := fun k => _) (fun k => by simp only [laws_FnSeals.j2]; rfl) ?_
 exact ev_neg (by simp) (ev_bind hd (ev_bind hI (ev_bind hS (ev_pos (by simp) (ev_eq (Ev.now _) (by simp))))))
theorem FnSeals (l0 l1 : List Int) (h0 : l0.length ≤ maxLen) (y0 : l0.length * 1 ≤ 140737488351232) (hw0 : ∀ x ∈ l0, (Lit.int .u8 x).wf = true) (h1 : l1.length ≤ maxLen) (y1 : l1.length * 1 ≤ 140737488351232) (hw1 : ∀ x ∈ l1, (Lit.int .u8 x).wf = true) : ∃ k, laws_FnSeals.f k l0 l1 = some true := by
 refine Ev.rounds ?_
 have hc := code_of l0 hw0
 have tail := sealsTail (code_of l1 hw1)
 unfold laws_FnSeals.f
 by_cases hL : wrap64 ((l0.length : Int) + (l1.length : Int)) > 1048576
 ·exact ev_pos hL (Ev.now _)
 refine ev_neg hL ?_
 obtain ⟨a, u, t, hd⟩ := drawSeal hc
 obtain ⟨z1, z2⟩ := sealM_len a u t
 have same : Ev (fun k => laws_sameSeal.f k (sealM a u t).2.2.1 (sealM a u t).2.2.2.1 (sealM a u t).2.2.2.2.1 (sealM a u t).2.2.1 (sealM a u t).2.2.2.1 (sealM a u t).2.2.2.2.1) true :=
  ev_pos rfl (ev_bind (PH.sameTexts_yes _ (by omega)) (ev_pos rfl (ev_bind (PH.sameTexts_yes _ (by omega)) (Ev.now _))))
 have hl2 : (leftM a u).2 = goodSg a u := by
  unfold leftM
  cases goodSg a u <;> rfl
 refine ev_const hd (ev_bind (sealI a u t) (ev_bind (sealS a u t) (ev_const (leftI a u) (ev_const (leftS a u) (ev_neg (by simp) (ev_neg (by simp) (ev_bind same (ev_pos rfl (ev_neg (by simp) (ev_pos rfl (ev_const (goodSgI a u) ?_)))))))))))
 rw [hl2]
 simp only [bne_self_eq_false]
 by_cases g : goodSg a u = true
 ·obtain ⟨hz, u0, u8⟩ := goodSg_facts g
  have hn : (leftM a u).1 = 8 - u := by unfold leftM; rw [if_pos g]
  rw [hn]
  by_cases ok : (t.size : Int) ≤ 200 ∧ u ≠ 8
  ·have hm : sealM a u t = (a, u + 1, u, signM (a ++ one u) t, wayM a u.toNat, true) := by unfold sealM; rw [if_pos ⟨g, ok.1, ok.2⟩]
   rw [hm]
   obtain ⟨n, rfl⟩ := Int.eq_ofNat_of_zero_le u0
   have hnn : n < 8 := by omega
   have hso : seedOk a = true := by
    unfold goodSg at g
    rw [Bool.and_eq_true] at g
    exact g.1
   have hg1 : goodSg a ((n : Int) + 1) = true := by
    unfold goodSg at g ⊢
    rw [Bool.and_eq_true] at g ⊢
    exact ⟨g.1, decide_eq_true (by omega)⟩
   have ht := topOfI a
   unfold topOfM at ht
   rw [if_pos hso] at ht
   have hk := sealed_held a t n hnn (by omega) ok.1
   have hlf : impl_LeftIn.f a ((n : Int) + 1) = some (8 - ((n : Int) + 1), true) := by rw [leftI]; unfold leftM; rw [if_pos hg1]
   have j1 : Ev (fun k => laws_FnSeals.j1 k l1 true (8 - (n : Int)) (goodSg a (n : Int))) true := by
    rw [g]
    exact Ev.step (fun k => by simp only [laws_FnSeals.j1]; rw [if_pos trivial, if_neg (by omega)]) tail
   have wn : wrap64 (8 - (n : Int) - 1) = 8 - ((n : Int) + 1) := by rw [w64 (by omega) (by omega)]; omega
   refine Ev.step (f := fun k => _) (fun k => by simp only [laws_FnSeals.j0]; rfl) ?_
   refine ev_neg (by simp) (ev_pos trivial (ev_bind ht (ev_bind (a := (true, true)) ?_ (ev_const hlf (ev_pos rfl (ev_pos rfl (ev_pos rfl (ev_pos rfl (ev_pos wn.symm (ev_pos trivial (ev_const (goodSgI _ _) (ev_pos hg1 j1))))))))))))
   exact hk
  ·have hm : sealM a u t = noSeal := by unfold sealM; rw [if_neg (fun h => ok h.2)]
   rw [hm]
   have j1 : Ev (fun k => laws_FnSeals.j1 k l1 false (8 - u) (goodSg a u)) true := by
    rw [g]
    by_cases c : 8 - u = 0
    ·exact Ev.step (fun k => by simp only [laws_FnSeals.j1]; rw [if_pos trivial, if_pos c]) tail
    ·exact Ev.step (fun k => by simp only [laws_FnSeals.j1]; rw [if_pos trivial, if_neg c]) tail
   exact Ev.step (fun k => by simp only [noSeal, laws_FnSeals.j0, Bool.false_eq_true, if_false]) j1
 ·have hm : sealM a u t = noSeal := by unfold sealM; rw [if_neg (fun h => g h.1)]
  have gf : goodSg a u = false := by cases h : goodSg a u with
   | false => rfl
   | true => exact absurd h g
  rw [hm, gf]
  have j1 : ∀ x, Ev (fun k => laws_FnSeals.j1 k l1 false x false) true := fun x => Ev.step (fun k => by simp only [laws_FnSeals.j1]; rw [if_neg (by simp)]) tail
  exact Ev.step (fun k => by simp only [noSeal, laws_FnSeals.j0, Bool.false_eq_true, if_false]) (j1 (leftM a u).1)
end Go.Proofs.Ythhkkhnjkoacnaa.Pure
end
