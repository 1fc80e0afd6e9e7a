/- For the law FnChain (laid by merge.py). -/
import Derived.Test.YthhkkhnjkoacnaaMFnChaine
import Derived.Laws.BitsLemmas
section
namespace Go.Proofs.Ythhkkhnjkoacnaa.PA
open Go.RowKit Go.Proofs.YthhkkhnjkoacnaaW.PrintWords Go.Proofs.YthhkkhnjkoacnaaW.PrintLast Go.Proofs.YthhkkhnjkoacnaaW.PrintMore
attribute [local go_sem] max2_int min2_int max_two min_two max_three min_three max_four min_four
set_option linter.unusedVariables false
set_option linter.unusedSimpArgs false
set_option maxHeartbeats 60000000
set_option maxRecDepth 100000
mutual
def laws_FnChain.j0 : Nat → List Int → List (S89) → ByteArray → List ByteArray → List (S89) → Bool → ByteArray → Bool → Bool → Option (Bool)
 | 0, _, _, _, _, _, _, _, _, _ => none
 | k + 1, x1, x5, x6, x7, x8, x9, x12, x13, x10 => if x10 = true then (some false) else (if x9 = true then (if 0 ≤ (x5.length : Int) then (if (x5.length : Int) < (x8.length : Int) then ((impl_BlockDigest.f k ((rd_T89 x8 (x5.length : Int)).f0) ((rd_T89 x8 (x5.length : Int)).f1) ((rd_T89 x8 (x5.length : Int)).f2)).bind fun bt11 => ((impl_LastDigest.f k x8).bind fun bt14 => ((impl_BlockBytes.f k ((rd_T89 x8 (x5.length : Int)).f0) ((rd_T89 x8 (x5.length : Int)).f1) ((rd_T89 x8 (x5.length : Int)).f2)).bind fun bt15 => ((impl_ReadBlock.f k bt15.1).bind fun bt16 => ((impl_GoodChain.f k x8).bind fun t17 => (if t17 = true then (if x13 = true then (if ((rd_T89 x8 (x5.length : Int)).f0).toList = x12.toList then (if ((rd_T89 x8 (x5.length : Int)).f1).toList = x6.toList then ((laws_sameTexts.f k ((rd_T89 x8 (x5.length : Int)).f2) x7).bind fun t18 => (if t18 = true then (if bt11.2 = true then (if bt14.2 = true then (if bt11.1.toList = bt14.1.toList then (if bt15.2 = true then (if bt16.2.2.2 = true then ((laws_sameBlock.f k bt16.1 bt16.2.1 bt16.2.2.1 ((rd_T89 x8 (x5.length : Int)).f0) ((rd_T89 x8 (x5.length : Int)).f1) ((rd_T89 x8 (x5.length : Int)).f2)).bind fun t19 => (if t19 = true then (laws_FnChain.j1 k x1) else (some false))) else (some false)) else (some false)) else (some false)) else (some false)) else (some false)) else (some false))) else (some false)) else (some false)) else (some false)) else (some false))))))) else (none)) else (none)) else (laws_FnChain.j1 k x1))
def laws_FnChain.j1 : Nat → List Int → Option (Bool)
 | 0, _ => none
 | k + 1, x1 => (spec_DrawBlockBytes.f k x1).bind fun bt20 => ((impl_BlockBytes.f k bt20.1 bt20.2.1 bt20.2.2).bind fun bt21 => ((spec_BlockBytes.f k bt20.1 bt20.2.1 bt20.2.2).bind fun bt22 => ((spec_DrawBlockDigest.f k x1).bind fun bt23 => ((impl_BlockDigest.f k bt23.1 bt23.2.1 bt23.2.2).bind fun bt24 => ((spec_BlockDigest.f k bt23.1 bt23.2.1 bt23.2.2).bind fun bt25 => ((spec_DrawReadBlock.f k x1).bind fun t26 => ((impl_ReadBlock.f k t26).bind fun bt27 => ((spec_ReadBlock.f k t26).bind fun bt28 => (if (bt21.2 != bt22.2) = true then (laws_FnChain.j2 k t26 bt27.2.2.2 true bt27.1 bt27.2.1 bt27.2.2.1) else (if bt21.1.toList = bt22.1.toList then (if (bt24.2 != bt25.2) = true then (laws_FnChain.j2 k t26 bt27.2.2.2 true bt27.1 bt27.2.1 bt27.2.2.1) else (if bt24.1.toList = bt25.1.toList then (if (bt27.2.2.2 != bt28.2.2.2) = true then (laws_FnChain.j2 k t26 bt27.2.2.2 true bt27.1 bt27.2.1 bt27.2.2.1) else ((laws_sameBlock.f k bt27.1 bt27.2.1 bt27.2.2.1 bt28.1 bt28.2.1 bt28.2.2.1).bind fun t29 => (if t29 = true then ((impl_GoodBlock.f k bt20.1 bt20.2.1 bt20.2.2).bind fun t30 => (laws_FnChain.j2 k t26 bt27.2.2.2 (t30 != bt21.2) bt27.1 bt27.2.1 bt27.2.2.1)) else (laws_FnChain.j2 k t26 bt27.2.2.2 true bt27.1 bt27.2.1 bt27.2.2.1)))) else (laws_FnChain.j2 k t26 bt27.2.2.2 true bt27.1 bt27.2.1 bt27.2.2.1))) else (laws_FnChain.j2 k t26 bt27.2.2.2 true bt27.1 bt27.2.1 bt27.2.2.1)))))))))))
def laws_FnChain.j2 : Nat → ByteArray → Bool → Bool → ByteArray → ByteArray → List ByteArray → Option (Bool)
 | 0, _, _, _, _, _, _ => none
 | k + 1, x35, x37, x31, x32, x33, x34 => if x31 = true then (some false) else (if x37 = true then ((impl_BlockBytes.f k x32 x33 x34).bind fun bt36 => (if bt36.2 = true then (some (bt36.1.toList == x35.toList)) else (some false))) else (some true))
end
def laws_FnChain.f (k : Nat) (l0 : List Int) (l1 : List Int) : Option (Bool) := if (wrap64 ((l0.length : Int) + (l1.length : Int))) > 1048576 then (some true) else ((spec_DrawPutBlock.f k l0).bind fun bt10 => ((impl_PutBlock.f k bt10.1 bt10.2.1 bt10.2.2).bind fun bt11 => ((spec_PutBlock.f k bt10.1 bt10.2.1 bt10.2.2).bind fun bt12 => ((impl_LastDigest.f k bt10.1).bind fun bt13 => ((spec_LastDigest.f k bt10.1).bind fun bt14 => (if (bt11.2 != bt12.2) = true then (laws_FnChain.j0 k l1 bt10.1 bt10.2.1 bt10.2.2 bt11.1 bt11.2 bt13.1 bt13.2 true) else ((laws_sameChain.f k bt11.1 bt12.1).bind fun t15 => (if t15 = true then (if (bt13.2 != bt14.2) = true then (laws_FnChain.j0 k l1 bt10.1 bt10.2.1 bt10.2.2 bt11.1 bt11.2 bt13.1 bt13.2 true) else (if bt13.1.toList = bt14.1.toList then ((impl_GoodChain.f k bt10.1).bind fun t16 => (laws_FnChain.j0 k l1 bt10.1 bt10.2.1 bt10.2.2 bt11.1 bt11.2 bt13.1 bt13.2 (t16 != bt14.2))) else (laws_FnChain.j0 k l1 bt10.1 bt10.2.1 bt10.2.2 bt11.1 bt11.2 bt13.1 bt13.2 true))) else (laws_FnChain.j0 k l1 bt10.1 bt10.2.1 bt10.2.2 bt11.1 bt11.2 bt13.1 bt13.2 true)))))))))
theorem laws_FnChain.calls (k : Nat) (A0 : Option Addr) (c0 : Nat) (l0 : List Int) (A1 : Option Addr) (c1 : Nat) (l1 : List Int) (r : Bool) (w : World) (hr0 : Kd.C (Kd.int .u8) w A0 l0.length l0) (hc0 : l0.length ≤ c0) (hr1 : Kd.C (Kd.int .u8) w A1 l1.length l1) (hc1 : l1.length ≤ c1) (h : laws_FnChain.f k l0 l1 = some r) (hr_ : Aside0 (r = true)) :
  Calls Try.prog 7 #[.slice A0 l0.length c0, .slice A1 l1.length c1] w fun e w' => e = .returned (.bool r) ∧ Below w.heap.size w w' := by
 have hu89 := Try.underlying89; have HR0 := zA hr0; have HC0 := zA hc0; clear hr0 hc0; have HR1 := zA hr1; have HC1 := zA hc1; clear hr1 hc1; have HB := zA (Below.refl w.heap.size w); have H : (if (wrap64 ((l0.length : Int) + (l1.length : Int))) > 1048576 then (some true) else ((spec_DrawPutBlock.f k l0).bind fun bt100 => ((impl_PutBlock.f k bt100.1 bt100.2.1 bt100.2.2).bind fun bt454 => ((spec_PutBlock.f k bt100.1 bt100.2.1 bt100.2.2).bind fun bt458 => ((impl_LastDigest.f k bt100.1).bind fun bt462 => ((spec_LastDigest.f k bt100.1).bind fun bt464 => (if (bt454.2 != bt458.2) = true then (laws_FnChain.j0 k l1 bt100.1 bt100.2.1 bt100.2.2 bt454.1 bt454.2 bt462.1 bt462.2 true) else ((laws_sameChain.f k bt454.1 bt458.1).bind fun t466 => (if t466 = true then (if (bt462.2 != bt464.2) = true then (laws_FnChain.j0 k l1 bt100.1 bt100.2.1 bt100.2.2 bt454.1 bt454.2 bt462.1 bt462.2 true) else (if bt462.1.toList = bt464.1.toList then ((impl_GoodChain.f k bt100.1).bind fun t467 => (laws_FnChain.j0 k l1 bt100.1 bt100.2.1 bt100.2.2 bt454.1 bt454.2 bt462.1 bt462.2 (t467 != bt464.2))) else (laws_FnChain.j0 k l1 bt100.1 bt100.2.1 bt100.2.2 bt454.1 bt454.2 bt462.1 bt462.2 true))) else (laws_FnChain.j0 k l1 bt100.1 bt100.2.1 bt100.2.2 bt454.1 bt454.2 bt462.1 bt462.2 true)))))))))) = some r := h; clear h
 by_cases c3 : (wrap64 ((l0.length : Int) + (l1.length : Int))) > 1048576
 ·rw [if_pos c3] at H
  have c3b0 : decide (1048576 < (wrap64 ((l0.length : Int) + (l1.length : Int)))) = true := zX c3; clear c3
  as_aux_lemma =>
   obtain rfl := Option.some.inj H; go_enter Try.func7, Try.ntmps7; go_wp2; go_ret; exact ⟨by first | rfl | (simp <;> rfl) | (simp [*] <;> rfl), by (with_reducible repeat first | exact HB.out | apply zH | apply zF | apply zG) <;> exact HB.out⟩
 ·rw [if_neg c3] at H
  have c3b0 : decide (1048576 < (wrap64 ((l0.length : Int) + (l1.length : Int)))) = false := decide_eq_false c3; clear c3; replace H := zAF H; obtain ⟨⟨t100, t450, t451⟩, A40, H⟩ := H; replace H : ((impl_PutBlock.f k t100 t450 t451).bind fun bt454 => ((spec_PutBlock.f k t100 t450 t451).bind fun bt458 => ((impl_LastDigest.f k t100).bind fun bt462 => ((spec_LastDigest.f k t100).bind fun bt464 => (if (bt454.2 != bt458.2) = true then (laws_FnChain.j0 k l1 t100 t450 t451 bt454.1 bt454.2 bt462.1 bt462.2 true) else ((laws_sameChain.f k bt454.1 bt458.1).bind fun t466 => (if t466 = true then (if (bt462.2 != bt464.2) = true then (laws_FnChain.j0 k l1 t100 t450 t451 bt454.1 bt454.2 bt462.1 bt462.2 true) else (if bt462.1.toList = bt464.1.toList then ((impl_GoodChain.f k t100).bind fun t467 => (laws_FnChain.j0 k l1 t100 t450 t451 bt454.1 bt454.2 bt462.1 bt462.2 (t467 != bt464.2))) else (laws_FnChain.j0 k l1 t100 t450 t451 bt454.1 bt454.2 bt462.1 bt462.2 true))) else (laws_FnChain.j0 k l1 t100 t450 t451 bt454.1 bt454.2 bt462.1 bt462.2 true)))))))) = some r := H; have A4 := zA A40; clear A40; replace H := zAF H; obtain ⟨⟨t454, t455⟩, A50, H⟩ := H; replace H : ((spec_PutBlock.f k t100 t450 t451).bind fun bt458 => ((impl_LastDigest.f k t100).bind fun bt462 => ((spec_LastDigest.f k t100).bind fun bt464 => (if (t455 != bt458.2) = true then (laws_FnChain.j0 k l1 t100 t450 t451 t454 t455 bt462.1 bt462.2 true) else ((laws_sameChain.f k t454 bt458.1).bind fun t466 => (if t466 = true then (if (bt462.2 != bt464.2) = true then (laws_FnChain.j0 k l1 t100 t450 t451 t454 t455 bt462.1 bt462.2 true) else (if bt462.1.toList = bt464.1.toList then ((impl_GoodChain.f k t100).bind fun t467 => (laws_FnChain.j0 k l1 t100 t450 t451 t454 t455 bt462.1 bt462.2 (t467 != bt464.2))) else (laws_FnChain.j0 k l1 t100 t450 t451 t454 t455 bt462.1 bt462.2 true))) else (laws_FnChain.j0 k l1 t100 t450 t451 t454 t455 bt462.1 bt462.2 true))))))) = some r := H; have A5 := zA A50; clear A50; replace H := zAF H; obtain ⟨⟨t458, t461⟩, A60, H⟩ := H; replace H : ((impl_LastDigest.f k t100).bind fun bt462 => ((spec_LastDigest.f k t100).bind fun bt464 => (if (t455 != t461) = true then (laws_FnChain.j0 k l1 t100 t450 t451 t454 t455 bt462.1 bt462.2 true) else ((laws_sameChain.f k t454 t458).bind fun t466 => (if t466 = true then (if (bt462.2 != bt464.2) = true then (laws_FnChain.j0 k l1 t100 t450 t451 t454 t455 bt462.1 bt462.2 true) else (if bt462.1.toList = bt464.1.toList then ((impl_GoodChain.f k t100).bind fun t467 => (laws_FnChain.j0 k l1 t100 t450 t451 t454 t455 bt462.1 bt462.2 (t467 != bt464.2))) else (laws_FnChain.j0 k l1 t100 t450 t451 t454 t455 bt462.1 bt462.2 true))) else (laws_FnChain.j0 k l1 t100 t450 t451 t454 t455 bt462.1 bt462.2 true)))))) = some r := H; have A6 := zA A60; clear A60; replace H := zAF H; obtain ⟨⟨t462, t463⟩, A70, H⟩ := H; replace H : ((spec_LastDigest.f k t100).bind fun bt464 => (if (t455 != t461) = true then (laws_FnChain.j0 k l1 t100 t450 t451 t454 t455 t462 t463 true) else ((laws_sameChain.f k t454 t458).bind fun t466 => (if t466 = true then (if (t463 != bt464.2) = true then (laws_FnChain.j0 k l1 t100 t450 t451 t454 t455 t462 t463 true) else (if t462.toList = bt464.1.toList then ((impl_GoodChain.f k t100).bind fun t467 => (laws_FnChain.j0 k l1 t100 t450 t451 t454 t455 t462 t463 (t467 != bt464.2))) else (laws_FnChain.j0 k l1 t100 t450 t451 t454 t455 t462 t463 true))) else (laws_FnChain.j0 k l1 t100 t450 t451 t454 t455 t462 t463 true))))) = some r := H; have A7 := zA A70; clear A70; replace H := zAF H; obtain ⟨⟨t464, t465⟩, A80, H⟩ := H; replace H : (if (t455 != t461) = true then (laws_FnChain.j0 k l1 t100 t450 t451 t454 t455 t462 t463 true) else ((laws_sameChain.f k t454 t458).bind fun t466 => (if t466 = true then (if (t463 != t465) = true then (laws_FnChain.j0 k l1 t100 t450 t451 t454 t455 t462 t463 true) else (if t462.toList = t464.toList then ((impl_GoodChain.f k t100).bind fun t467 => (laws_FnChain.j0 k l1 t100 t450 t451 t454 t455 t462 t463 (t467 != t465))) else (laws_FnChain.j0 k l1 t100 t450 t451 t454 t455 t462 t463 true))) else (laws_FnChain.j0 k l1 t100 t450 t451 t454 t455 t462 t463 true)))) = some r := H; have A8 := zA A80; clear A80; have HC9 := zA H; clear H; go_enter Try.func7, Try.ntmps7; go_upto_region 8 with (first | ((with_reducible refine yB (f := 58) rfl ?_); refine goesL_ (some 50) rfl rfl Try.func58 (by kernel_rfl) rfl #[.slice A0 l0.length c0] rfl (by (try simp only [zAA, zAB, zAC]); first | done | rfl | (simp only [zZ, zY]; rfl)) ?_; (with_reducible refine (spec_DrawPutBlock.calls k _ _ l0 t100 t450 t451 _ ?side1 ?side2 A4.out).mono ?_); (case side1 => repeat (first | exact HR0.out | (with_reducible refine zT ?_ _) | (with_reducible refine zU ?_ _) | (with_reducible refine zV ?_))); (case side2 => exact HC0.out); rintro e w10 ⟨v448, v452, rfl, ho0, ho1, hb⟩; refine ⟨_, rfl, ?_⟩; have n0_ := zA (Kd.N_lower (Kd.N_mono (ok' := fun k_ => some k_ ≠ (v452 : Value).ownBlock) ho0 (fun k_ hk_ => hk_.2)) (zAE (by (with_reducible repeat first | exact HB.out | apply zH | apply zF | apply zG) <;> exact HB.out))); have n1_ := zA (Kd.R_lower (yC (ok' := fun k_ => True) ho1 (fun _ hk_ => trivial)) (zAE (by (with_reducible repeat first | exact HB.out | apply zH | apply zF | apply zG) <;> exact HB.out))); have n2_ := zA (zAD (by (with_reducible repeat first | exact HB.out | apply zH | apply zF | apply zG) <;> exact HB.out) hb); clear HB; have HO449 := n0_; have HO453 := n1_; have HB := n2_; clear n0_ n1_ n2_; (try clear hb); (try clear ho0); (try clear ho1); obtain ⟨Ao11, co11, eo11⟩ := Kd.N_slice HO449.out; subst eo11; obtain ⟨Ao12, co12, eo12⟩ := Kd.R_slice HO453.out; subst eo12) | ((with_reducible refine yB (f := 15) rfl ?_); refine goesL_ (some 58) rfl rfl Try.func15 (by kernel_rfl) rfl #[.slice Ao11 t100.length co11, .string t450, .slice Ao12 t451.length co12] rfl (by (try simp only [zAA, zAB, zAC]); first | done | rfl | (simp only [zZ, zY]; rfl)) ?_; (with_reducible refine (impl_PutBlock.calls k _ _ t100 t450 _ _ t451 t454 t455 _ ?side1 ?side2 ?side3 ?side4 A5.out).mono ?_); (case side1 => repeat (first | exact (Kd.N_reads' HO449.out).2.2 | (with_reducible refine zT ?_ _) | (with_reducible refine zU ?_ _) | (with_reducible refine zV ?_))); (case side2 => exact (Kd.N_reads' HO449.out).2.1); (case side3 => repeat (first | exact (yD HO453.out).2.2 | (with_reducible refine zT ?_ _) | (with_reducible refine zU ?_ _) | (with_reducible refine zV ?_))); (case side4 => exact (yD HO453.out).2.1); rintro e w13 ⟨v456, rfl, ho0, hb⟩; refine ⟨_, rfl, ?_⟩; have n0_ := zA (Kd.N_elder' (by (with_reducible repeat (first | apply Kd.N_alloc | apply Kd.N_drewN | apply Kd.N_drew)); exact HO449.out) (by first | exact Kd.N_base ho0 | exact Kd.S_base ho0 | exact Kd.R_base ho0) hb); have n1_ := zA (Kd.R_below (by (with_reducible repeat first | apply zQ | apply zR | apply zS); exact HO453.out) hb); have n2_ := zA (Kd.N_lower (Kd.N_mono (ok' := fun k_ => some k_ ≠ (.slice Ao11 t100.length co11 : Value).ownBlock ∧ some k_ ≠ (.slice Ao12 t451.length co12 : Value).ownBlock) (Kd.S_N (Kd.S_bound ho0)) (fun k_ hk_ => ⟨(Kd.fresh' (Kd.N_lt (by (with_reducible repeat (first | apply Kd.N_alloc | apply Kd.N_drewN | apply Kd.N_drew)); exact HO449.out)) k_ hk_.2.1), (Kd.fresh' (Kd.R_lt (by (with_reducible repeat first | apply zQ | apply zR | apply zS); exact HO453.out)) k_ hk_.2.1)⟩)) (zAE (by (with_reducible repeat first | exact HB.out | apply zH | apply zF | apply zG) <;> exact HB.out))); have n3_ := zA (zAD (by (with_reducible repeat first | exact HB.out | apply zH | apply zF | apply zG) <;> exact HB.out) hb); clear HO449; clear HO453; clear HB; have HO449 := n0_; have HO453 := n1_; have HO457 := n2_; have HB := n3_; clear n0_ n1_ n2_ n3_; (try clear hb); (try clear ho0)) | ((with_reducible refine yB (f := 12) rfl ?_); refine goesL_ (some 65) rfl rfl Try.func12 (by kernel_rfl) rfl #[.slice Ao11 t100.length co11, .string t450, .slice Ao12 t451.length co12] rfl (by (try simp only [zAA, zAB, zAC]); first | done | rfl | (simp only [zZ, zY]; rfl)) ?_; (with_reducible refine (spec_PutBlock.calls k _ _ t100 t450 _ _ t451 t458 t461 _ ?side1 ?side2 ?side3 ?side4 A6.out).mono ?_); (case side1 => repeat (first | exact (Kd.N_reads' HO449.out).2.2 | (with_reducible refine zT ?_ _) | (with_reducible refine zU ?_ _) | (with_reducible refine zV ?_))); (case side2 => exact (Kd.N_reads' HO449.out).2.1); (case side3 => repeat (first | exact (yD HO453.out).2.2 | (with_reducible refine zT ?_ _) | (with_reducible refine zU ?_ _) | (with_reducible refine zV ?_))); (case side4 => exact (yD HO453.out).2.1); rintro e w14 ⟨v459, rfl, ho0, hb⟩; refine ⟨_, rfl, ?_⟩; have n0_ := zA (Kd.N_elder' (by (with_reducible repeat (first | apply Kd.N_alloc | apply Kd.N_drewN | apply Kd.N_drew)); exact HO449.out) (by first | exact Kd.N_base ho0 | exact Kd.S_base ho0 | exact Kd.R_base ho0) hb); have n1_ := zA (Kd.R_below (by (with_reducible repeat first | apply zQ | apply zR | apply zS); exact HO453.out) hb); have n2_ := zA (Kd.N_elder' (by (with_reducible repeat (first | apply Kd.N_alloc | apply Kd.N_drewN | apply Kd.N_drew)); exact HO457.out) (by first | exact Kd.N_base ho0 | exact Kd.S_base ho0 | exact Kd.R_base ho0) hb); have n3_ := zA (Kd.N_lower (Kd.N_mono (ok' := fun k_ => some k_ ≠ (.slice Ao11 t100.length co11 : Value).ownBlock ∧ some k_ ≠ (.slice Ao12 t451.length co12 : Value).ownBlock ∧ some k_ ≠ (v456 : Value).ownBlock) ho0 (fun k_ hk_ => ⟨(Kd.fresh' (Kd.N_lt (by (with_reducible repeat (first | apply Kd.N_alloc | apply Kd.N_drewN | apply Kd.N_drew)); exact HO449.out)) k_ hk_), (Kd.fresh' (Kd.R_lt (by (with_reducible repeat first | apply zQ | apply zR | apply zS); exact HO453.out)) k_ hk_), (Kd.fresh' (Kd.N_lt (by (with_reducible repeat (first | apply Kd.N_alloc | apply Kd.N_drewN | apply Kd.N_drew)); exact HO457.out)) k_ hk_)⟩)) (zAE (by (with_reducible repeat first | exact HB.out | apply zH | apply zF | apply zG) <;> exact HB.out))); have n4_ := zA (zAD (by (with_reducible repeat first | exact HB.out | apply zH | apply zF | apply zG) <;> exact HB.out) hb); clear HO449; clear HO453; clear HO457; clear HB; have HO449 := n0_; have HO453 := n1_; have HO457 := n2_; have HO460 := n3_; have HB := n4_; clear n0_ n1_ n2_ n3_ n4_; (try clear hb); (try clear ho0)) | ((with_reducible refine yB (f := 41) rfl ?_); refine goesL_ (some 70) rfl rfl Try.func41 (by kernel_rfl) rfl #[.slice Ao11 t100.length co11] rfl (by (try simp only [zAA, zAB, zAC]); first | done | rfl | (simp only [zZ, zY]; rfl)) ?_; (with_reducible refine (impl_LastDigest.calls k _ _ t100 t462 t463 _ ?side1 ?side2 A7.out).mono ?_); (case side1 => repeat (first | exact (Kd.N_reads' HO449.out).2.2 | (with_reducible refine zT ?_ _) | (with_reducible refine zU ?_ _) | (with_reducible refine zV ?_))); (case side2 => exact (Kd.N_reads' HO449.out).2.1); rintro e w15 ⟨rfl, hb⟩; refine ⟨_, rfl, ?_⟩; have n0_ := zA (Kd.N_below (by (with_reducible repeat (first | apply Kd.N_alloc | apply Kd.N_drewN | apply Kd.N_drew)); exact HO449.out) hb); have n1_ := zA (Kd.R_below (by (with_reducible repeat first | apply zQ | apply zR | apply zS); exact HO453.out) hb); have n2_ := zA (Kd.N_below (by (with_reducible repeat (first | apply Kd.N_alloc | apply Kd.N_drewN | apply Kd.N_drew)); exact HO457.out) hb); have n3_ := zA (Kd.N_below (by (with_reducible repeat (first | apply Kd.N_alloc | apply Kd.N_drewN | apply Kd.N_drew)); exact HO460.out) hb); have n4_ := zA (zAD (by (with_reducible repeat first | exact HB.out | apply zH | apply zF | apply zG) <;> exact HB.out) hb); clear HO449; clear HO453; clear HO457; clear HO460; clear HB; have HO449 := n0_; have HO453 := n1_; have HO457 := n2_; have HO460 := n3_; have HB := n4_; clear n0_ n1_ n2_ n3_ n4_; (try clear hb)) | ((with_reducible refine yB (f := 59) rfl ?_); refine goesL_ (some 75) rfl rfl Try.func59 (by kernel_rfl) rfl #[.slice Ao11 t100.length co11] rfl (by (try simp only [zAA, zAB, zAC]); first | done | rfl | (simp only [zZ, zY]; rfl)) ?_; (with_reducible refine (spec_LastDigest.calls k _ _ t100 t464 t465 _ ?side1 ?side2 A8.out).mono ?_); (case side1 => repeat (first | exact (Kd.N_reads' HO449.out).2.2 | (with_reducible refine zT ?_ _) | (with_reducible refine zU ?_ _) | (with_reducible refine zV ?_))); (case side2 => exact (Kd.N_reads' HO449.out).2.1); rintro e w16 ⟨rfl, hb⟩; refine ⟨_, rfl, ?_⟩; have n0_ := zA (Kd.N_below (by (with_reducible repeat (first | apply Kd.N_alloc | apply Kd.N_drewN | apply Kd.N_drew)); exact HO449.out) hb); have n1_ := zA (Kd.R_below (by (with_reducible repeat first | apply zQ | apply zR | apply zS); exact HO453.out) hb); have n2_ := zA (Kd.N_below (by (with_reducible repeat (first | apply Kd.N_alloc | apply Kd.N_drewN | apply Kd.N_drew)); exact HO457.out) hb); have n3_ := zA (Kd.N_below (by (with_reducible repeat (first | apply Kd.N_alloc | apply Kd.N_drewN | apply Kd.N_drew)); exact HO460.out) hb); have n4_ := zA (zAD (by (with_reducible repeat first | exact HB.out | apply zH | apply zF | apply zG) <;> exact HB.out) hb); clear HO449; clear HO453; clear HO457; clear HO460; clear HB; have HO449 := n0_; have HO453 := n1_; have HO457 := n2_; have HO460 := n3_; have HB := n4_; clear n0_ n1_ n2_ n3_ n4_; (try clear hb)))
  (try simp only [Act.put, zC, zD, zE]); go_cut [102] (fun v102 wc => ∃ (kq : Nat) (x102_8 : Bool), v102 = .bool x102_8 ∧ Aside0 (laws_FnChain.j0 kq l1 t100 t450 t451 t454 t455 t462 t463 x102_8 = some r) ∧ Aside0 (kq ≤ k) ∧ Aside0 (Kd.N k89 89 wc w.heap.size (fun k_ => some k_ ≠ ((.slice Ao12 t451.length co12) : Value).ownBlock ∧ some k_ ≠ (v456 : Value).ownBlock) (.slice Ao11 t100.length co11) t100) ∧ Aside0 (Kd.R Kd.string 9 wc w.heap.size (fun _ => True) (.slice Ao12 t451.length co12) t451) ∧ Aside0 (Kd.N k89 89 wc w.heap.size (fun k_ => some k_ ≠ ((.slice Ao11 t100.length co11) : Value).ownBlock ∧ some k_ ≠ ((.slice Ao12 t451.length co12) : Value).ownBlock) v456 t454) ∧ Aside0 (Below w.heap.size w wc))
  case first =>
   have H := HC9.out; clear HC9
   by_cases c17 : (t455 != t461) = true
   ·rw [if_pos c17] at H
    have c17b0 : (t455 != t461) = true := c17; (try (have c17b1 : decide (t455 = t461) = false := by simpa using c17)); (try (have c17b2 : (t455 == t461) = false := by simpa using c17)); (try (have c17b3 : ¬ (t455 = t461) := by simpa using c17)); clear c17; (first | rw [c17b0] | (simp only [i64_w, i32_w]; rw [c17b0]) | skip)
    as_aux_lemma =>
     exfalso; revert H; generalize k = q_; intro H; cases q_ with
     | zero => exact absurd H (by simp [laws_FnChain.j0])
     | succ q_ => simp only [laws_FnChain.j0] at H; exact absurd ((Option.some.inj (show some false = some _ from H)).trans hr_.out) (by decide)
   ·rw [if_neg c17] at H
    have c17b0 : (t455 != t461) = false := by simpa using c17
    (try (have c17b1 : decide (t455 = t461) = true := by simpa using c17)); (try (have c17b2 : (t455 == t461) = true := by simpa using c17)); clear c17; (first | rw [c17b0] | (simp only [i64_w, i32_w]; rw [c17b0]) | skip); replace H := zAF H; obtain ⟨t466, A180, H⟩ := H; replace H : (if t466 = true then (if (t463 != t465) = true then (laws_FnChain.j0 k l1 t100 t450 t451 t454 t455 t462 t463 true) else (if t462.toList = t464.toList then ((impl_GoodChain.f k t100).bind fun t467 => (laws_FnChain.j0 k l1 t100 t450 t451 t454 t455 t462 t463 (t467 != t465))) else (laws_FnChain.j0 k l1 t100 t450 t451 t454 t455 t462 t463 true))) else (laws_FnChain.j0 k l1 t100 t450 t451 t454 t455 t462 t463 true)) = some r := H; have A18 := zA A180; clear A180
    by_cases c19 : t466 = true
    ·subst c19
     have H1 : (if (t463 != t465) = true then (laws_FnChain.j0 k l1 t100 t450 t451 t454 t455 t462 t463 true) else (if t462.toList = t464.toList then ((impl_GoodChain.f k t100).bind fun t467 => (laws_FnChain.j0 k l1 t100 t450 t451 t454 t455 t462 t463 (t467 != t465))) else (laws_FnChain.j0 k l1 t100 t450 t451 t454 t455 t462 t463 true))) = some r := by rw [if_pos rfl] at H; exact H
     clear H; have H := H1; clear H1
     by_cases c20 : (t463 != t465) = true
     ·rw [if_pos c20] at H
      have c20b0 : (t463 != t465) = true := c20; (try (have c20b1 : decide (t463 = t465) = false := by simpa using c20)); (try (have c20b2 : (t463 == t465) = false := by simpa using c20)); (try (have c20b3 : ¬ (t463 = t465) := by simpa using c20)); clear c20
      as_aux_lemma =>
       exfalso; revert H; generalize k = q_; intro H; cases q_ with
       | zero => exact absurd H (by simp [laws_FnChain.j0])
       | succ q_ => simp only [laws_FnChain.j0] at H; exact absurd ((Option.some.inj (show some false = some _ from H)).trans hr_.out) (by decide)
     ·rw [if_neg c20] at H
      have c20b0 : (t463 != t465) = false := by simpa using c20
      (try (have c20b1 : decide (t463 = t465) = true := by simpa using c20)); (try (have c20b2 : (t463 == t465) = true := by simpa using c20)); clear c20
      by_cases c21 : t462.toList = t464.toList
      ·rw [if_pos c21] at H
       have c21b0 : (t462.toList == t464.toList) = true := beq_iff_eq.mpr c21; have c21b1 : (t462.toList != t464.toList) = false := bne_eq_false_iff_eq.mpr c21; clear c21; replace H := zAF H; obtain ⟨t467, A220, H⟩ := H; replace H : (laws_FnChain.j0 k l1 t100 t450 t451 t454 t455 t462 t463 (t467 != t465)) = some r := H; have A22 := zA A220; clear A220
       as_aux_lemma =>
        have H' := zA H; clear H; obtain ⟨Ao23, co23, eo23⟩ := Kd.N_slice HO457.out; subst eo23; obtain ⟨Ao24, co24, eo24⟩ := Kd.N_slice HO460.out; subst eo24; go_wp2_with (first | (go_at_call 45; (with_reducible refine (laws_sameChain.calls k _ _ t454 _ _ t458 true _ ?side1 ?side2 ?side3 ?side4 A18.out).mono ?_); (case side1 => repeat (first | exact (Kd.N_reads' HO457.out).2.2 | (with_reducible refine zT ?_ _) | (with_reducible refine zU ?_ _) | (with_reducible refine zV ?_))); (case side2 => exact (Kd.N_reads' HO457.out).2.1); (case side3 => repeat (first | exact (Kd.N_reads' HO460.out).2.2 | (with_reducible refine zT ?_ _) | (with_reducible refine zU ?_ _) | (with_reducible refine zV ?_))); (case side4 => exact (Kd.N_reads' HO460.out).2.1); rintro e w25 ⟨rfl, hb⟩; have n0_ := zA (Kd.N_below (by (with_reducible repeat (first | apply Kd.N_alloc | apply Kd.N_drewN | apply Kd.N_drew)); exact HO449.out) hb); have n1_ := zA (Kd.R_below (by (with_reducible repeat first | apply zQ | apply zR | apply zS); exact HO453.out) hb); have n2_ := zA (Kd.N_below (by (with_reducible repeat (first | apply Kd.N_alloc | apply Kd.N_drewN | apply Kd.N_drew)); exact HO457.out) hb); have n3_ := zA (Kd.N_below (by (with_reducible repeat (first | apply Kd.N_alloc | apply Kd.N_drewN | apply Kd.N_drew)); exact HO460.out) hb); have n4_ := zA (zAD (by (with_reducible repeat first | exact HB.out | apply zH | apply zF | apply zG) <;> exact HB.out) hb); clear HO449; clear HO453; clear HO457; clear HO460; clear HB; have HO449 := n0_; have HO453 := n1_; have HO457 := n2_; have HO460 := n3_; have HB := n4_; clear n0_ n1_ n2_ n3_ n4_; (try clear hb)) | (go_at_call 60; (with_reducible refine (impl_GoodChain.calls k _ _ t100 t467 _ ?side1 ?side2 A22.out).mono ?_); (case side1 => repeat (first | exact (Kd.N_reads' HO449.out).2.2 | (with_reducible refine zT ?_ _) | (with_reducible refine zU ?_ _) | (with_reducible refine zV ?_))); (case side2 => exact (Kd.N_reads' HO449.out).2.1); rintro e w26 ⟨rfl, hb⟩; have n0_ := zA (Kd.N_below (by (with_reducible repeat (first | apply Kd.N_alloc | apply Kd.N_drewN | apply Kd.N_drew)); exact HO449.out) hb); have n1_ := zA (Kd.R_below (by (with_reducible repeat first | apply zQ | apply zR | apply zS); exact HO453.out) hb); have n2_ := zA (Kd.N_below (by (with_reducible repeat (first | apply Kd.N_alloc | apply Kd.N_drewN | apply Kd.N_drew)); exact HO457.out) hb); have n3_ := zA (Kd.N_below (by (with_reducible repeat (first | apply Kd.N_alloc | apply Kd.N_drewN | apply Kd.N_drew)); exact HO460.out) hb); have n4_ := zA (zAD (by (with_reducible repeat first | exact HB.out | apply zH | apply zF | apply zG) <;> exact HB.out) hb); clear HO449; clear HO453; clear HO457; clear HO460; clear HB; have HO449 := n0_; have HO453 := n1_; have HO457 := n2_; have HO460 := n3_; have HB := n4_; clear n0_ n1_ n2_ n3_ n4_; (try clear hb))); go_meet
        case rel => exact ⟨_, ((t467 != t465)), (by first | rfl | (simp; done) | (simp [*]; done) | (simp [bne]; done)), H', ⟨by first | omega | exact Nat.le_refl _⟩, ⟨by (with_reducible repeat (first | apply Kd.N_alloc | apply Kd.N_drewN | apply Kd.N_drew)); exact Kd.N_mono HO449.out (fun _ hk => ⟨hk.1.1, hk.1.2⟩)⟩, ⟨by (with_reducible repeat first | apply zQ | apply zR | apply zS); exact HO453.out⟩, ⟨by (with_reducible repeat (first | apply Kd.N_alloc | apply Kd.N_drewN | apply Kd.N_drew)); exact Kd.N_mono HO457.out (fun _ hk => ⟨hk.1.1, hk.1.2⟩)⟩, ⟨by (with_reducible repeat first | exact HB.out | apply zH | apply zF | apply zG) <;> exact HB.out⟩⟩
      ·rw [if_neg c21] at H
       have c21b0 : (t462.toList == t464.toList) = false := beq_eq_false_iff_ne.mpr c21; have c21b1 : (t462.toList != t464.toList) = true := bne_iff_ne.mpr c21
       as_aux_lemma =>
        exfalso; revert H; generalize k = q_; intro H; cases q_ with
        | zero => exact absurd H (by simp [laws_FnChain.j0])
        | succ q_ => simp only [laws_FnChain.j0] at H; exact absurd ((Option.some.inj (show some false = some _ from H)).trans hr_.out) (by decide)
    ·replace c19 := Bool.eq_false_iff.mpr c19
     subst c19; have H1 : (laws_FnChain.j0 k l1 t100 t450 t451 t454 t455 t462 t463 true) = some r := by rw [if_neg (show ¬ (false = true) by decide)] at H; exact H
     clear H; have H := H1; clear H1
     as_aux_lemma =>
      exfalso; revert H; generalize k = q_; intro H; cases q_ with
      | zero => exact absurd H (by simp [laws_FnChain.j0])
      | succ q_ => simp only [laws_FnChain.j0] at H; exact absurd ((Option.some.inj (show some false = some _ from H)).trans hr_.out) (by decide)
  case rest =>
   clear HC9
   try clear c1
   try clear c2
   try clear p2
   try clear c3
   try clear c3b0
   try clear c4
   try clear c5
   try clear p6
   try clear c7
   try clear c12
   try clear c15
   try clear c17
   try clear c17b0
   try clear c17b1
   try clear c17b2
   try clear c19
   try clear c20
   try clear c20b0
   try clear c20b1
   try clear c20b2
   try clear c21
   try clear c21b0
   try clear c21b1
   obtain ⟨kq, x102_8, rfl, HA, HJ8, HO_5, HO_7, HO_8, HB⟩ := hcut
   cases kq with
   | zero => exact absurd HA.out (by simp [laws_FnChain.j0])
   | succ kj8 =>
    have H := HA.out; clear HA; simp only [laws_FnChain.j0] at H
    by_cases c27 : x102_8 = true
    ·subst c27
     have H1 : (some false) = some r := by rw [if_pos rfl] at H; exact H
     clear H; have H := H1; clear H1
     as_aux_lemma =>
      exact absurd ((Option.some.inj H).trans hr_.out) (by decide)
    ·replace c27 := Bool.eq_false_iff.mpr c27
     subst c27; have H1 : (if t455 = true then (if 0 ≤ (t100.length : Int) then (if (t100.length : Int) < (t454.length : Int) then ((impl_BlockDigest.f kj8 ((rd_T89 t454 (t100.length : Int)).f0) ((rd_T89 t454 (t100.length : Int)).f1) ((rd_T89 t454 (t100.length : Int)).f2)).bind fun bt470 => ((impl_LastDigest.f kj8 t454).bind fun bt472 => ((impl_BlockBytes.f kj8 ((rd_T89 t454 (t100.length : Int)).f0) ((rd_T89 t454 (t100.length : Int)).f1) ((rd_T89 t454 (t100.length : Int)).f2)).bind fun bt474 => ((impl_ReadBlock.f kj8 bt474.1).bind fun bt476 => ((impl_GoodChain.f kj8 t454).bind fun t483 => (if t483 = true then (if t463 = true then (if ((rd_T89 t454 (t100.length : Int)).f0).toList = t462.toList then (if ((rd_T89 t454 (t100.length : Int)).f1).toList = t450.toList then ((laws_sameTexts.f kj8 ((rd_T89 t454 (t100.length : Int)).f2) t451).bind fun t484 => (if t484 = true then (if bt470.2 = true then (if bt472.2 = true then (if bt470.1.toList = bt472.1.toList then (if bt474.2 = true then (if bt476.2.2.2 = true then ((laws_sameBlock.f kj8 bt476.1 bt476.2.1 bt476.2.2.1 ((rd_T89 t454 (t100.length : Int)).f0) ((rd_T89 t454 (t100.length : Int)).f1) ((rd_T89 t454 (t100.length : Int)).f2)).bind fun t485 => (if t485 = true then (laws_FnChain.j1 kj8 l1) else (some false))) else (some false)) else (some false)) else (some false)) else (some false)) else (some false)) else (some false))) else (some false)) else (some false)) else (some false)) else (some false))))))) else (none)) else (none)) else (laws_FnChain.j1 kj8 l1)) = some r := by rw [if_neg (show ¬ (false = true) by decide)] at H; exact H
     clear H; have H := H1; clear H1; have HC28 := zA H; clear H; go_upto_if 103 with (fail)
     go_cut [] (fun wc => ∃ (kq : Nat), Aside0 (laws_FnChain.j1 kq l1 = some r) ∧ Aside0 (kq ≤ kj8) ∧ Aside0 (Below w.heap.size w wc))
     case first =>
      have H := HC28.out; clear HC28
      by_cases c29 : t455 = true
      ·subst c29
       have H1 : (if 0 ≤ (t100.length : Int) then (if (t100.length : Int) < (t454.length : Int) then ((impl_BlockDigest.f kj8 ((rd_T89 t454 (t100.length : Int)).f0) ((rd_T89 t454 (t100.length : Int)).f1) ((rd_T89 t454 (t100.length : Int)).f2)).bind fun bt470 => ((impl_LastDigest.f kj8 t454).bind fun bt472 => ((impl_BlockBytes.f kj8 ((rd_T89 t454 (t100.length : Int)).f0) ((rd_T89 t454 (t100.length : Int)).f1) ((rd_T89 t454 (t100.length : Int)).f2)).bind fun bt474 => ((impl_ReadBlock.f kj8 bt474.1).bind fun bt476 => ((impl_GoodChain.f kj8 t454).bind fun t483 => (if t483 = true then (if t463 = true then (if ((rd_T89 t454 (t100.length : Int)).f0).toList = t462.toList then (if ((rd_T89 t454 (t100.length : Int)).f1).toList = t450.toList then ((laws_sameTexts.f kj8 ((rd_T89 t454 (t100.length : Int)).f2) t451).bind fun t484 => (if t484 = true then (if bt470.2 = true then (if bt472.2 = true then (if bt470.1.toList = bt472.1.toList then (if bt474.2 = true then (if bt476.2.2.2 = true then ((laws_sameBlock.f kj8 bt476.1 bt476.2.1 bt476.2.2.1 ((rd_T89 t454 (t100.length : Int)).f0) ((rd_T89 t454 (t100.length : Int)).f1) ((rd_T89 t454 (t100.length : Int)).f2)).bind fun t485 => (if t485 = true then (laws_FnChain.j1 kj8 l1) else (some false))) else (some false)) else (some false)) else (some false)) else (some false)) else (some false)) else (some false))) else (some false)) else (some false)) else (some false)) else (some false))))))) else (none)) else (none)) = some r := by rw [if_pos rfl] at H; exact H
       clear H; have H := H1; clear H1
       by_cases c30 : 0 ≤ (t100.length : Int)
       ·rw [if_pos c30] at H
        have c30b0 : decide (0 ≤ (t100.length : Int)) = true := zX c30; have c30b1 : decide (0 ≤ t100.length) = true := zX (by omega); clear c30; (first | rw [c30b0] | (simp only [i64_w, i32_w]; rw [c30b0]) | skip)
        by_cases c31 : (t100.length : Int) < (t454.length : Int)
        ·rw [if_pos c31] at H
         have c31b0 : decide ((t100.length : Int) < (t454.length : Int)) = true := zX c31; have c31b1 : decide (t100.length < t454.length) = true := zX (Int.ofNat_lt.mp c31); clear c31; replace H := zAF H; obtain ⟨⟨t470, t471⟩, A320, H⟩ := H; replace H : ((impl_LastDigest.f kj8 t454).bind fun bt472 => ((impl_BlockBytes.f kj8 ((rd_T89 t454 (t100.length : Int)).f0) ((rd_T89 t454 (t100.length : Int)).f1) ((rd_T89 t454 (t100.length : Int)).f2)).bind fun bt474 => ((impl_ReadBlock.f kj8 bt474.1).bind fun bt476 => ((impl_GoodChain.f kj8 t454).bind fun t483 => (if t483 = true then (if t463 = true then (if ((rd_T89 t454 (t100.length : Int)).f0).toList = t462.toList then (if ((rd_T89 t454 (t100.length : Int)).f1).toList = t450.toList then ((laws_sameTexts.f kj8 ((rd_T89 t454 (t100.length : Int)).f2) t451).bind fun t484 => (if t484 = true then (if t471 = true then (if bt472.2 = true then (if t470.toList = bt472.1.toList then (if bt474.2 = true then (if bt476.2.2.2 = true then ((laws_sameBlock.f kj8 bt476.1 bt476.2.1 bt476.2.2.1 ((rd_T89 t454 (t100.length : Int)).f0) ((rd_T89 t454 (t100.length : Int)).f1) ((rd_T89 t454 (t100.length : Int)).f2)).bind fun t485 => (if t485 = true then (laws_FnChain.j1 kj8 l1) else (some false))) else (some false)) else (some false)) else (some false)) else (some false)) else (some false)) else (some false))) else (some false)) else (some false)) else (some false)) else (some false)))))) = some r := H; have A32 := zA A320; clear A320; replace H := zAF H; obtain ⟨⟨t472, t473⟩, A330, H⟩ := H; replace H : ((impl_BlockBytes.f kj8 ((rd_T89 t454 (t100.length : Int)).f0) ((rd_T89 t454 (t100.length : Int)).f1) ((rd_T89 t454 (t100.length : Int)).f2)).bind fun bt474 => ((impl_ReadBlock.f kj8 bt474.1).bind fun bt476 => ((impl_GoodChain.f kj8 t454).bind fun t483 => (if t483 = true then (if t463 = true then (if ((rd_T89 t454 (t100.length : Int)).f0).toList = t462.toList then (if ((rd_T89 t454 (t100.length : Int)).f1).toList = t450.toList then ((laws_sameTexts.f kj8 ((rd_T89 t454 (t100.length : Int)).f2) t451).bind fun t484 => (if t484 = true then (if t471 = true then (if t473 = true then (if t470.toList = t472.toList then (if bt474.2 = true then (if bt476.2.2.2 = true then ((laws_sameBlock.f kj8 bt476.1 bt476.2.1 bt476.2.2.1 ((rd_T89 t454 (t100.length : Int)).f0) ((rd_T89 t454 (t100.length : Int)).f1) ((rd_T89 t454 (t100.length : Int)).f2)).bind fun t485 => (if t485 = true then (laws_FnChain.j1 kj8 l1) else (some false))) else (some false)) else (some false)) else (some false)) else (some false)) else (some false)) else (some false))) else (some false)) else (some false)) else (some false)) else (some false))))) = some r := H; have A33 := zA A330; clear A330; replace H := zAF H; obtain ⟨⟨t474, t475⟩, A340, H⟩ := H; replace H : ((impl_ReadBlock.f kj8 t474).bind fun bt476 => ((impl_GoodChain.f kj8 t454).bind fun t483 => (if t483 = true then (if t463 = true then (if ((rd_T89 t454 (t100.length : Int)).f0).toList = t462.toList then (if ((rd_T89 t454 (t100.length : Int)).f1).toList = t450.toList then ((laws_sameTexts.f kj8 ((rd_T89 t454 (t100.length : Int)).f2) t451).bind fun t484 => (if t484 = true then (if t471 = true then (if t473 = true then (if t470.toList = t472.toList then (if t475 = true then (if bt476.2.2.2 = true then ((laws_sameBlock.f kj8 bt476.1 bt476.2.1 bt476.2.2.1 ((rd_T89 t454 (t100.length : Int)).f0) ((rd_T89 t454 (t100.length : Int)).f1) ((rd_T89 t454 (t100.length : Int)).f2)).bind fun t485 => (if t485 = true then (laws_FnChain.j1 kj8 l1) else (some false))) else (some false)) else (some false)) else (some false)) else (some false)) else (some false)) else (some false))) else (some false)) else (some false)) else (some false)) else (some false)))) = some r := H; have A34 := zA A340; clear A340; replace H := zAF H; obtain ⟨⟨t476, t477, t478, t481⟩, A350, H⟩ := H; replace H : ((impl_GoodChain.f kj8 t454).bind fun t483 => (if t483 = true then (if t463 = true then (if ((rd_T89 t454 (t100.length : Int)).f0).toList = t462.toList then (if ((rd_T89 t454 (t100.length : Int)).f1).toList = t450.toList then ((laws_sameTexts.f kj8 ((rd_T89 t454 (t100.length : Int)).f2) t451).bind fun t484 => (if t484 = true then (if t471 = true then (if t473 = true then (if t470.toList = t472.toList then (if t475 = true then (if t481 = true then ((laws_sameBlock.f kj8 t476 t477 t478 ((rd_T89 t454 (t100.length : Int)).f0) ((rd_T89 t454 (t100.length : Int)).f1) ((rd_T89 t454 (t100.length : Int)).f2)).bind fun t485 => (if t485 = true then (laws_FnChain.j1 kj8 l1) else (some false))) else (some false)) else (some false)) else (some false)) else (some false)) else (some false)) else (some false))) else (some false)) else (some false)) else (some false)) else (some false))) = some r := H; have A35 := zA A350; clear A350; replace H := zAF H; obtain ⟨t483, A360, H⟩ := H; replace H : (if t483 = true then (if t463 = true then (if ((rd_T89 t454 (t100.length : Int)).f0).toList = t462.toList then (if ((rd_T89 t454 (t100.length : Int)).f1).toList = t450.toList then ((laws_sameTexts.f kj8 ((rd_T89 t454 (t100.length : Int)).f2) t451).bind fun t484 => (if t484 = true then (if t471 = true then (if t473 = true then (if t470.toList = t472.toList then (if t475 = true then (if t481 = true then ((laws_sameBlock.f kj8 t476 t477 t478 ((rd_T89 t454 (t100.length : Int)).f0) ((rd_T89 t454 (t100.length : Int)).f1) ((rd_T89 t454 (t100.length : Int)).f2)).bind fun t485 => (if t485 = true then (laws_FnChain.j1 kj8 l1) else (some false))) else (some false)) else (some false)) else (some false)) else (some false)) else (some false)) else (some false))) else (some false)) else (some false)) else (some false)) else (some false)) = some r := H; have A36 := zA A360; clear A360
         by_cases c37 : t483 = true
         ·subst c37
          have H1 : (if t463 = true then (if ((rd_T89 t454 (t100.length : Int)).f0).toList = t462.toList then (if ((rd_T89 t454 (t100.length : Int)).f1).toList = t450.toList then ((laws_sameTexts.f kj8 ((rd_T89 t454 (t100.length : Int)).f2) t451).bind fun t484 => (if t484 = true then (if t471 = true then (if t473 = true then (if t470.toList = t472.toList then (if t475 = true then (if t481 = true then ((laws_sameBlock.f kj8 t476 t477 t478 ((rd_T89 t454 (t100.length : Int)).f0) ((rd_T89 t454 (t100.length : Int)).f1) ((rd_T89 t454 (t100.length : Int)).f2)).bind fun t485 => (if t485 = true then (laws_FnChain.j1 kj8 l1) else (some false))) else (some false)) else (some false)) else (some false)) else (some false)) else (some false)) else (some false))) else (some false)) else (some false)) else (some false)) = some r := by rw [if_pos rfl] at H; exact H
          clear H; have H := H1; clear H1
          by_cases c38 : t463 = true
          ·subst c38
           have H1 : (if ((rd_T89 t454 (t100.length : Int)).f0).toList = t462.toList then (if ((rd_T89 t454 (t100.length : Int)).f1).toList = t450.toList then ((laws_sameTexts.f kj8 ((rd_T89 t454 (t100.length : Int)).f2) t451).bind fun t484 => (if t484 = true then (if t471 = true then (if t473 = true then (if t470.toList = t472.toList then (if t475 = true then (if t481 = true then ((laws_sameBlock.f kj8 t476 t477 t478 ((rd_T89 t454 (t100.length : Int)).f0) ((rd_T89 t454 (t100.length : Int)).f1) ((rd_T89 t454 (t100.length : Int)).f2)).bind fun t485 => (if t485 = true then (laws_FnChain.j1 kj8 l1) else (some false))) else (some false)) else (some false)) else (some false)) else (some false)) else (some false)) else (some false))) else (some false)) else (some false)) = some r := by rw [if_pos rfl] at H; exact H
           clear H; have H := H1; clear H1
           by_cases c39 : ((rd_T89 t454 (t100.length : Int)).f0).toList = t462.toList
           ·rw [if_pos c39] at H
            have c39b0 : (((rd_T89 t454 (t100.length : Int)).f0).toList == t462.toList) = true := beq_iff_eq.mpr c39; have c39b1 : (((rd_T89 t454 (t100.length : Int)).f0).toList != t462.toList) = false := bne_eq_false_iff_eq.mpr c39; clear c39
            by_cases c40 : ((rd_T89 t454 (t100.length : Int)).f1).toList = t450.toList
            ·rw [if_pos c40] at H
             have c40b0 : (((rd_T89 t454 (t100.length : Int)).f1).toList == t450.toList) = true := beq_iff_eq.mpr c40; have c40b1 : (((rd_T89 t454 (t100.length : Int)).f1).toList != t450.toList) = false := bne_eq_false_iff_eq.mpr c40; clear c40; replace H := zAF H; obtain ⟨t484, A410, H⟩ := H; replace H : (if t484 = true then (if t471 = true then (if t473 = true then (if t470.toList = t472.toList then (if t475 = true then (if t481 = true then ((laws_sameBlock.f kj8 t476 t477 t478 ((rd_T89 t454 (t100.length : Int)).f0) ((rd_T89 t454 (t100.length : Int)).f1) ((rd_T89 t454 (t100.length : Int)).f2)).bind fun t485 => (if t485 = true then (laws_FnChain.j1 kj8 l1) else (some false))) else (some false)) else (some false)) else (some false)) else (some false)) else (some false)) else (some false)) = some r := H; have A41 := zA A410; clear A410
             by_cases c42 : t484 = true
             ·subst c42
              have H1 : (if t471 = true then (if t473 = true then (if t470.toList = t472.toList then (if t475 = true then (if t481 = true then ((laws_sameBlock.f kj8 t476 t477 t478 ((rd_T89 t454 (t100.length : Int)).f0) ((rd_T89 t454 (t100.length : Int)).f1) ((rd_T89 t454 (t100.length : Int)).f2)).bind fun t485 => (if t485 = true then (laws_FnChain.j1 kj8 l1) else (some false))) else (some false)) else (some false)) else (some false)) else (some false)) else (some false)) = some r := by rw [if_pos rfl] at H; exact H
              clear H; have H := H1; clear H1
              by_cases c43 : t471 = true
              ·subst c43
               have H1 : (if t473 = true then (if t470.toList = t472.toList then (if t475 = true then (if t481 = true then ((laws_sameBlock.f kj8 t476 t477 t478 ((rd_T89 t454 (t100.length : Int)).f0) ((rd_T89 t454 (t100.length : Int)).f1) ((rd_T89 t454 (t100.length : Int)).f2)).bind fun t485 => (if t485 = true then (laws_FnChain.j1 kj8 l1) else (some false))) else (some false)) else (some false)) else (some false)) else (some false)) = some r := by rw [if_pos rfl] at H; exact H
               clear H; have H := H1; clear H1
               by_cases c44 : t473 = true
               ·subst c44
                have H1 : (if t470.toList = t472.toList then (if t475 = true then (if t481 = true then ((laws_sameBlock.f kj8 t476 t477 t478 ((rd_T89 t454 (t100.length : Int)).f0) ((rd_T89 t454 (t100.length : Int)).f1) ((rd_T89 t454 (t100.length : Int)).f2)).bind fun t485 => (if t485 = true then (laws_FnChain.j1 kj8 l1) else (some false))) else (some false)) else (some false)) else (some false)) = some r := by rw [if_pos rfl] at H; exact H
                clear H; have H := H1; clear H1
                by_cases c45 : t470.toList = t472.toList
                ·rw [if_pos c45] at H
                 have c45b0 : (t470.toList == t472.toList) = true := beq_iff_eq.mpr c45; have c45b1 : (t470.toList != t472.toList) = false := bne_eq_false_iff_eq.mpr c45; clear c45
                 by_cases c46 : t475 = true
                 ·subst c46
                  have H1 : (if t481 = true then ((laws_sameBlock.f kj8 t476 t477 t478 ((rd_T89 t454 (t100.length : Int)).f0) ((rd_T89 t454 (t100.length : Int)).f1) ((rd_T89 t454 (t100.length : Int)).f2)).bind fun t485 => (if t485 = true then (laws_FnChain.j1 kj8 l1) else (some false))) else (some false)) = some r := by rw [if_pos rfl] at H; exact H
                  clear H; have H := H1; clear H1
                  by_cases c47 : t481 = true
                  ·subst c47
                   have H1 : ((laws_sameBlock.f kj8 t476 t477 t478 ((rd_T89 t454 (t100.length : Int)).f0) ((rd_T89 t454 (t100.length : Int)).f1) ((rd_T89 t454 (t100.length : Int)).f2)).bind fun t485 => (if t485 = true then (laws_FnChain.j1 kj8 l1) else (some false))) = some r := by rw [if_pos rfl] at H; exact H
                   clear H; have H := H1; clear H1; replace H := zAF H; obtain ⟨t485, A480, H⟩ := H; replace H : (if t485 = true then (laws_FnChain.j1 kj8 l1) else (some false)) = some r := H; have A48 := zA A480; clear A480
                   by_cases c49 : t485 = true
                   ·subst c49
                    have H1 : (laws_FnChain.j1 kj8 l1) = some r := by rw [if_pos rfl] at H; exact H
                    clear H; have H := H1; clear H1
                    as_aux_lemma =>
                     have H' := zA H; clear H; obtain ⟨Ao50, co50, eo50⟩ := Kd.N_slice HO_8.out; subst eo50; have p468 : 0 ≤ ((t100.length : Int) : Int) := zW (by first | (with_reducible assumption) | assumption); have q468 : (t100.length : Int) < (t454.length : Int) := zW (by first | (with_reducible assumption) | assumption); obtain ⟨ad468, A468_2, c468_2, e468, hx468_0, hx468_1, hx468_2, hl468_2, hi468_2⟩ := at_T89 (Kd.N_reads' HO_8.out).2.2 (t100.length : Int) p468 q468
                     cases e468
                     obtain ⟨ce468, hce468, hMe468, hcc468⟩ := Kd.N_get HO_8.out z89 (t100.length : Int) p468 (by first | exact q468 | exact zW (by first | (with_reducible assumption) | assumption) | (have e_ := (Kd.N_reads' HO_8.out).1; omega)); obtain ⟨ua468_2, uc468_2, rfl, ul468_2, ge468_2⟩ := k89_openF hMe468; have hv468_2 := hcc468 2 _ rfl; rw [add_field _ _ 2 (by omega)] at hv468_2; replace hv468_2 := Option.some.inj (hv468_2.symm.trans hx468_2); injection hv468_2 with hva_ hvn_ hvc_
                     rw [hva_] at ge468_2; rw [hvc_] at ul468_2; have HL468_2 := zA (show Kd.V Kd.string 9 _ w.heap.size _ _ ((rd_T89 t454 (t100.length : Int)).f2) from Kd.V_mk ul468_2 ge468_2); clear hva_ hvn_ hvc_ ge468_2 ul468_2 hcc468 hce468; have HR468_2 := zA hi468_2; have HC468_2 := zA hl468_2; clear hi468_2 hl468_2; (try simp only [Go.IntWalk.toNatUp] at hx468_0); (try simp only [Go.IntWalk.toNatUp] at hx468_1); (try simp only [Go.IntWalk.toNatUp] at hx468_2); replace p468 := eq_true p468; replace q468 := eq_true q468; go_wp2_with (first | ((with_reducible refine gate_dst (N := 16) rfl ?_); refine box_event ?hg (N := 16) ?hd (cs := #[.string (⟨#[]⟩ : ByteArray), .string (⟨#[]⟩ : ByteArray), .slice none 0 0]) (t := 89) ?hr ?_; (case hd => rfl); (case hg => rfl); (case hr => first | (go_simp; done) | (go_simp; rfl)); intro gb469 hg w51 hbox hb; have n0_ := zA (Kd.N_below (Kd.N_elderB (by (with_reducible repeat (first | apply Kd.N_alloc | apply Kd.N_drewN | apply Kd.N_drew)); exact HO_5.out) gb469 (Nat.le_of_eq hg.symm)) hb); have n1_ := zA (Kd.R_below (by (with_reducible repeat first | apply zQ | apply zR | apply zS); exact HO_7.out) hb); have n2_ := zA (Kd.N_below (Kd.N_elderB (by (with_reducible repeat (first | apply Kd.N_alloc | apply Kd.N_drewN | apply Kd.N_drew)); exact HO_8.out) gb469 (Nat.le_of_eq hg.symm)) hb); have n3_ := zA (Kd.V_below (Kd.V_elderB (by (with_reducible repeat (first | apply Kd.V_alloc | apply Kd.V_drewN | apply Kd.V_drew)); exact HL468_2.out) gb469 (Nat.le_of_eq hg.symm)) hb); have n4_ := zA (Kd.C_below (by repeat (first | (with_reducible exact HR468_2.out) | (with_reducible refine zT ?_ _) | (with_reducible refine zU ?_ _) | (with_reducible refine zV ?_) | exact HR468_2.out)) hb); have n5_ := zA (zAD (by (with_reducible repeat first | exact HB.out | apply zH | apply zF | apply zG) <;> exact HB.out) hb); have n6_ := zA (hbox); have n7_ := zA ((by rw [hg]; exact (zAE (by (with_reducible repeat first | exact HB.out | apply zH | apply zF | apply zG) <;> exact HB.out)) : w.heap.size ≤ gb469)); have n8_ := zA ((by rw [hg]; exact (zAE (by (with_reducible repeat first | exact HB.out | apply zH | apply zF | apply zG) <;> exact HB.out)) : w.heap.size ≤ gb469)); clear HO_5; clear HO_7; clear HO_8; clear HL468_2; clear HR468_2; clear HB; have HO_5 := n0_; have HO_7 := n1_; have HO_8 := n2_; have HL468_2 := n3_; have HR468_2 := n4_; have HB := n5_; have BK469 := n6_; have GW469 := n7_; have GE469 := n8_; clear n0_ n1_ n2_ n3_ n4_ n5_ n6_ n7_ n8_; clear hb hbox hg; have hcz52_0 : w51.cell? ⟨gb469, 0, none⟩ = some (.string (⟨#[]⟩ : ByteArray)) := (zP BK469.out 0).trans rfl; have hcz52_1 : w51.cell? ⟨gb469, 1, none⟩ = some (.string (⟨#[]⟩ : ByteArray)) := (zP BK469.out 1).trans rfl; have hcz52_2 : w51.cell? ⟨gb469, 2, none⟩ = some (.slice none 0 0) := (zP BK469.out 2).trans rfl; have hfz52_0 := zO BK469.out 0; have hfz52_1 := zO BK469.out 1; have hfz52_2 := zO BK469.out 2) | ((with_reducible refine yB (f := 61) rfl ?_); refine goesL_ (some 111) rfl rfl Try.func61 (by kernel_rfl) rfl #[.agg #[.string ((rd_T89 t454 (t100.length : Int)).f0), .string ((rd_T89 t454 (t100.length : Int)).f1), .slice A468_2 ((rd_T89 t454 (t100.length : Int)).f2).length c468_2]] rfl (by (try simp only [zAA, zAB, zAC]); first | done | rfl | (simp only [zZ, zY]; rfl)) ?_; (with_reducible refine (impl_BlockDigest.calls kj8 ((rd_T89 t454 (t100.length : Int)).f0) ((rd_T89 t454 (t100.length : Int)).f1) _ _ ((rd_T89 t454 (t100.length : Int)).f2) t470 true _ ?side1 ?side2 A32.out).mono ?_); (case side1 => repeat (first | exact ((Kd.V_reads' (by (with_reducible repeat (first | apply Kd.V_alloc | apply Kd.V_drewN | apply Kd.V_drew)); exact (Kd.V_mono (Kd.V_far (p := ⟨gb469, 2, none⟩) (Kd.V_far (p := ⟨gb469, 1, none⟩) (Kd.V_far (p := ⟨gb469, 0, none⟩) (Kd.V_mono HL468_2.out (fun k_ hk => (⟨hk, hk.2⟩ : _ ∧ k_ ≠ gb469))) (fun _ hk => hk.2) (.string ((rd_T89 t454 (t100.length : Int)).f0))) (fun _ hk => hk.2) (.string ((rd_T89 t454 (t100.length : Int)).f1))) (fun _ hk => hk.2) (.slice A468_2 ((rd_T89 t454 (t100.length : Int)).f2).length c468_2)) (fun _ h_ => h_.1)))).2.2) | (with_reducible refine zT ?_ _) | (with_reducible refine zU ?_ _) | (with_reducible refine zV ?_))); (case side2 => exact HC468_2.out); rintro e w53 ⟨rfl, hb⟩; refine ⟨_, rfl, ?_⟩; have n0_ := zA (Kd.N_below (by (with_reducible repeat (first | apply Kd.N_alloc | apply Kd.N_drewN | apply Kd.N_drew)); exact (Kd.N_mono (Kd.N_far (p := ⟨gb469, 2, none⟩) (Kd.N_far (p := ⟨gb469, 1, none⟩) (Kd.N_far (p := ⟨gb469, 0, none⟩) (Kd.N_mono HO_5.out (fun k_ hk => (⟨hk, hk.2⟩ : _ ∧ k_ ≠ gb469))) (fun _ hk => hk.2) (.string ((rd_T89 t454 (t100.length : Int)).f0))) (fun _ hk => hk.2) (.string ((rd_T89 t454 (t100.length : Int)).f1))) (fun _ hk => hk.2) (.slice A468_2 ((rd_T89 t454 (t100.length : Int)).f2).length c468_2)) (fun _ h_ => h_.1))) hb); have n1_ := zA (Kd.R_below (by (with_reducible repeat first | apply zQ | apply zR | apply zS); exact (yC (Kd.R_far (p := ⟨gb469, 2, none⟩) (Kd.R_far (p := ⟨gb469, 1, none⟩) (Kd.R_far (p := ⟨gb469, 0, none⟩) (Kd.R_types HO_7.out BK469.out (by decide)) (fun _ hk => hk.2) (.string ((rd_T89 t454 (t100.length : Int)).f0))) (fun _ hk => hk.2) (.string ((rd_T89 t454 (t100.length : Int)).f1))) (fun _ hk => hk.2) (.slice A468_2 ((rd_T89 t454 (t100.length : Int)).f2).length c468_2)) (fun _ h_ => h_.1))) hb); have n2_ := zA (Kd.N_below (by (with_reducible repeat (first | apply Kd.N_alloc | apply Kd.N_drewN | apply Kd.N_drew)); exact (Kd.N_mono (Kd.N_far (p := ⟨gb469, 2, none⟩) (Kd.N_far (p := ⟨gb469, 1, none⟩) (Kd.N_far (p := ⟨gb469, 0, none⟩) (Kd.N_mono HO_8.out (fun k_ hk => (⟨hk, hk.2⟩ : _ ∧ k_ ≠ gb469))) (fun _ hk => hk.2) (.string ((rd_T89 t454 (t100.length : Int)).f0))) (fun _ hk => hk.2) (.string ((rd_T89 t454 (t100.length : Int)).f1))) (fun _ hk => hk.2) (.slice A468_2 ((rd_T89 t454 (t100.length : Int)).f2).length c468_2)) (fun _ h_ => h_.1))) hb); have n3_ := zA (Kd.V_below (by (with_reducible repeat (first | apply Kd.V_alloc | apply Kd.V_drewN | apply Kd.V_drew)); exact (Kd.V_mono (Kd.V_far (p := ⟨gb469, 2, none⟩) (Kd.V_far (p := ⟨gb469, 1, none⟩) (Kd.V_far (p := ⟨gb469, 0, none⟩) (Kd.V_mono HL468_2.out (fun k_ hk => (⟨hk, hk.2⟩ : _ ∧ k_ ≠ gb469))) (fun _ hk => hk.2) (.string ((rd_T89 t454 (t100.length : Int)).f0))) (fun _ hk => hk.2) (.string ((rd_T89 t454 (t100.length : Int)).f1))) (fun _ hk => hk.2) (.slice A468_2 ((rd_T89 t454 (t100.length : Int)).f2).length c468_2)) (fun _ h_ => h_.1))) hb); have n4_ := zA (Kd.C_below ((Kd.V_reads' (by (with_reducible repeat (first | apply Kd.V_alloc | apply Kd.V_drewN | apply Kd.V_drew)); exact (Kd.V_mono (Kd.V_far (p := ⟨gb469, 2, none⟩) (Kd.V_far (p := ⟨gb469, 1, none⟩) (Kd.V_far (p := ⟨gb469, 0, none⟩) (Kd.V_mono HL468_2.out (fun k_ hk => (⟨hk, hk.2⟩ : _ ∧ k_ ≠ gb469))) (fun _ hk => hk.2) (.string ((rd_T89 t454 (t100.length : Int)).f0))) (fun _ hk => hk.2) (.string ((rd_T89 t454 (t100.length : Int)).f1))) (fun _ hk => hk.2) (.slice A468_2 ((rd_T89 t454 (t100.length : Int)).f2).length c468_2)) (fun _ h_ => h_.1)))).2.2) hb); have n5_ := zA (yE (g := gb469) (o := .cells #[.string ((rd_T89 t454 (t100.length : Int)).f0), .string ((rd_T89 t454 (t100.length : Int)).f1), .slice A468_2 ((rd_T89 t454 (t100.length : Int)).f2).length c468_2] 89 (0, 0)) (by (with_reducible repeat (first | refine zL ?_ _ | refine zN ?_ | refine zM ?_ _)); refine blk_put (cs := #[.string ((rd_T89 t454 (t100.length : Int)).f0), .string ((rd_T89 t454 (t100.length : Int)).f1), .slice none 0 0]) ?_ 2 _ rfl; (with_reducible repeat (first | refine zL ?_ _ | refine zN ?_ | refine zM ?_ _)); refine blk_put (cs := #[.string ((rd_T89 t454 (t100.length : Int)).f0), .string (⟨#[]⟩ : ByteArray), .slice none 0 0]) ?_ 1 _ rfl; (with_reducible repeat (first | refine zL ?_ _ | refine zN ?_ | refine zM ?_ _)); refine blk_put (cs := #[.string (⟨#[]⟩ : ByteArray), .string (⟨#[]⟩ : ByteArray), .slice none 0 0]) ?_ 0 _ rfl; (with_reducible repeat (first | refine zL ?_ _ | refine zN ?_ | refine zM ?_ _)); exact BK469.out) hb); have n6_ := zA (zAD (by repeat (first | (with_reducible first | exact HB.out | apply zH | apply zF | apply zG | refine zI ?_ GE469.out) | exact HB.out)) hb); clear HO_5; clear HO_7; clear HO_8; clear HL468_2; clear HR468_2; clear BK469; clear HB; have HO_5 := n0_; have HO_7 := n1_; have HO_8 := n2_; have HL468_2 := n3_; have HR468_2 := n4_; have BK469 := n5_; have HB := n6_; clear n0_ n1_ n2_ n3_ n4_ n5_ n6_; (try clear hb); (try clear hk)) | ((with_reducible refine yB (f := 41) rfl ?_); refine goesL_ (some 116) rfl rfl Try.func41 (by kernel_rfl) rfl #[.slice (some ad468) t454.length co50] rfl (by (try simp only [zAA, zAB, zAC]); first | done | rfl | (simp only [zZ, zY]; rfl)) ?_; (with_reducible refine (impl_LastDigest.calls kj8 _ _ t454 t472 true _ ?side1 ?side2 A33.out).mono ?_); (case side1 => repeat (first | exact (Kd.N_reads' HO_8.out).2.2 | (with_reducible refine zT ?_ _) | (with_reducible refine zU ?_ _) | (with_reducible refine zV ?_))); (case side2 => exact (Kd.N_reads' HO_8.out).2.1); rintro e w54 ⟨rfl, hb⟩; refine ⟨_, rfl, ?_⟩; have n0_ := zA (Kd.N_below (by (with_reducible repeat (first | apply Kd.N_alloc | apply Kd.N_drewN | apply Kd.N_drew)); exact HO_5.out) hb); have n1_ := zA (Kd.R_below (by (with_reducible repeat first | apply zQ | apply zR | apply zS); exact HO_7.out) hb); have n2_ := zA (Kd.N_below (by (with_reducible repeat (first | apply Kd.N_alloc | apply Kd.N_drewN | apply Kd.N_drew)); exact HO_8.out) hb); have n3_ := zA (Kd.V_below (by (with_reducible repeat (first | apply Kd.V_alloc | apply Kd.V_drewN | apply Kd.V_drew)); exact HL468_2.out) hb); have n4_ := zA (Kd.C_below (by repeat (first | (with_reducible exact HR468_2.out) | (with_reducible refine zT ?_ _) | (with_reducible refine zU ?_ _) | (with_reducible refine zV ?_) | exact HR468_2.out)) hb); have n5_ := zA (yE (g := gb469) (o := .cells #[.string ((rd_T89 t454 (t100.length : Int)).f0), .string ((rd_T89 t454 (t100.length : Int)).f1), .slice A468_2 ((rd_T89 t454 (t100.length : Int)).f2).length c468_2] 89 (0, 0)) (by (with_reducible repeat (first | refine zL ?_ _ | refine zN ?_ | refine zM ?_ _)); exact BK469.out) hb); have n6_ := zA (zAD (by repeat (first | (with_reducible first | exact HB.out | apply zH | apply zF | apply zG | refine zI ?_ GE469.out) | exact HB.out)) hb); clear HO_5; clear HO_7; clear HO_8; clear HL468_2; clear HR468_2; clear BK469; clear HB; have HO_5 := n0_; have HO_7 := n1_; have HO_8 := n2_; have HL468_2 := n3_; have HR468_2 := n4_; have BK469 := n5_; have HB := n6_; clear n0_ n1_ n2_ n3_ n4_ n5_ n6_; (try clear hb); have hcz55_0 : w54.cell? ⟨gb469, 0, none⟩ = some (.string ((rd_T89 t454 (t100.length : Int)).f0)) := (zP BK469.out 0).trans rfl; have hcz55_1 : w54.cell? ⟨gb469, 1, none⟩ = some (.string ((rd_T89 t454 (t100.length : Int)).f1)) := (zP BK469.out 1).trans rfl; have hcz55_2 : w54.cell? ⟨gb469, 2, none⟩ = some (.slice A468_2 ((rd_T89 t454 (t100.length : Int)).f2).length c468_2) := (zP BK469.out 2).trans rfl; have hfz55_0 := zO BK469.out 0; have hfz55_1 := zO BK469.out 1; have hfz55_2 := zO BK469.out 2) | ((with_reducible refine yB (f := 62) rfl ?_); refine goesL_ (some 121) rfl rfl Try.func62 (by kernel_rfl) rfl #[.agg #[.string ((rd_T89 t454 (t100.length : Int)).f0), .string ((rd_T89 t454 (t100.length : Int)).f1), .slice A468_2 ((rd_T89 t454 (t100.length : Int)).f2).length c468_2]] rfl (by (try simp only [zAA, zAB, zAC]); first | done | rfl | (simp only [zZ, zY]; rfl)) ?_; (with_reducible refine (impl_BlockBytes.calls kj8 ((rd_T89 t454 (t100.length : Int)).f0) ((rd_T89 t454 (t100.length : Int)).f1) _ _ ((rd_T89 t454 (t100.length : Int)).f2) t474 true _ ?side1 ?side2 A34.out).mono ?_); (case side1 => repeat (first | exact (by repeat (first | (with_reducible exact HR468_2.out) | (with_reducible refine zT ?_ _) | (with_reducible refine zU ?_ _) | (with_reducible refine zV ?_) | exact HR468_2.out)) | (with_reducible refine zT ?_ _) | (with_reducible refine zU ?_ _) | (with_reducible refine zV ?_))); (case side2 => exact HC468_2.out); rintro e w56 ⟨rfl, hb⟩; refine ⟨_, rfl, ?_⟩; have n0_ := zA (Kd.N_below (by (with_reducible repeat (first | apply Kd.N_alloc | apply Kd.N_drewN | apply Kd.N_drew)); exact HO_5.out) hb); have n1_ := zA (Kd.R_below (by (with_reducible repeat first | apply zQ | apply zR | apply zS); exact HO_7.out) hb); have n2_ := zA (Kd.N_below (by (with_reducible repeat (first | apply Kd.N_alloc | apply Kd.N_drewN | apply Kd.N_drew)); exact HO_8.out) hb); have n3_ := zA (Kd.V_below (by (with_reducible repeat (first | apply Kd.V_alloc | apply Kd.V_drewN | apply Kd.V_drew)); exact HL468_2.out) hb); have n4_ := zA (Kd.C_below (by repeat (first | (with_reducible exact HR468_2.out) | (with_reducible refine zT ?_ _) | (with_reducible refine zU ?_ _) | (with_reducible refine zV ?_) | exact HR468_2.out)) hb); have n5_ := zA (yE (g := gb469) (o := .cells #[.string ((rd_T89 t454 (t100.length : Int)).f0), .string ((rd_T89 t454 (t100.length : Int)).f1), .slice A468_2 ((rd_T89 t454 (t100.length : Int)).f2).length c468_2] 89 (0, 0)) (by (with_reducible repeat (first | refine zL ?_ _ | refine zN ?_ | refine zM ?_ _)); exact BK469.out) hb); have n6_ := zA (zAD (by repeat (first | (with_reducible first | exact HB.out | apply zH | apply zF | apply zG | refine zI ?_ GE469.out) | exact HB.out)) hb); clear HO_5; clear HO_7; clear HO_8; clear HL468_2; clear HR468_2; clear BK469; clear HB; have HO_5 := n0_; have HO_7 := n1_; have HO_8 := n2_; have HL468_2 := n3_; have HR468_2 := n4_; have BK469 := n5_; have HB := n6_; clear n0_ n1_ n2_ n3_ n4_ n5_ n6_; (try clear hb)) | ((with_reducible refine yB (f := 63) rfl ?_); refine goesL_ (some 126) rfl rfl Try.func63 (by kernel_rfl) rfl #[.string t474] rfl (by (try simp only [zAA, zAB, zAC]); first | done | rfl) ?_; (with_reducible refine (impl_ReadBlock.calls kj8 t474 t476 t477 t478 true _ A35.out).mono ?_); rintro e w57 ⟨v479, rfl, ho0, hb⟩; refine ⟨_, rfl, ?_⟩; have n0_ := zA (Kd.N_elder' (by (with_reducible repeat (first | apply Kd.N_alloc | apply Kd.N_drewN | apply Kd.N_drew)); exact HO_5.out) (Kd.R_base ho0) hb); have n1_ := zA (yJ (by (with_reducible repeat first | apply zQ | apply zR | apply zS); exact HO_7.out) (Kd.R_base ho0) hb); have n2_ := zA (Kd.N_elder' (by (with_reducible repeat (first | apply Kd.N_alloc | apply Kd.N_drewN | apply Kd.N_drew)); exact HO_8.out) (Kd.R_base ho0) hb); have n3_ := zA (Kd.V_elder' (by (with_reducible repeat (first | apply Kd.V_alloc | apply Kd.V_drewN | apply Kd.V_drew)); exact HL468_2.out) (Kd.R_base ho0) hb); have n4_ := zA (Kd.R_lower (yK ho0 (Kd.R_lt (by (with_reducible repeat first | apply zQ | apply zR | apply zS); exact HO_7.out))) (zAE (by repeat (first | (with_reducible first | exact HB.out | apply zH | apply zF | apply zG | refine zI ?_ GE469.out) | exact HB.out)))); have n5_ := zA (Kd.C_below (by repeat (first | (with_reducible exact HR468_2.out) | (with_reducible refine zT ?_ _) | (with_reducible refine zU ?_ _) | (with_reducible refine zV ?_) | exact HR468_2.out)) hb); have n6_ := zA (yE (g := gb469) (o := .cells #[.string ((rd_T89 t454 (t100.length : Int)).f0), .string ((rd_T89 t454 (t100.length : Int)).f1), .slice A468_2 ((rd_T89 t454 (t100.length : Int)).f2).length c468_2] 89 (0, 0)) (by (with_reducible repeat (first | refine zL ?_ _ | refine zN ?_ | refine zM ?_ _)); exact BK469.out) hb); have n7_ := zA (zAD (by repeat (first | (with_reducible first | exact HB.out | apply zH | apply zF | apply zG | refine zI ?_ GE469.out) | exact HB.out)) hb); clear HO_5; clear HO_7; clear HO_8; clear HL468_2; clear HR468_2; clear BK469; clear HB; have HO_5 := n0_; have HO_7 := n1_; have HO_8 := n2_; have HL468_2 := n3_; have HO480 := n4_; have HR468_2 := n5_; have BK469 := n6_; have HB := n7_; clear n0_ n1_ n2_ n3_ n4_ n5_ n6_ n7_; (try clear hb); (try clear ho0)) | ((with_reducible refine gate_dst (N := 23) rfl ?_); refine box_event ?hg (N := 23) ?hd (cs := #[.string (⟨#[]⟩ : ByteArray), .string (⟨#[]⟩ : ByteArray), .slice none 0 0]) (t := 89) ?hr ?_; (case hd => rfl); (case hg => rfl); (case hr => first | (go_simp; done) | (go_simp; rfl)); intro gb482 hg w58 hbox hb; have n0_ := zA (Kd.N_below (Kd.N_elderB (by (with_reducible repeat (first | apply Kd.N_alloc | apply Kd.N_drewN | apply Kd.N_drew)); exact HO_5.out) gb482 (Nat.le_of_eq hg.symm)) hb); have n1_ := zA (Kd.R_below (by (with_reducible repeat first | apply zQ | apply zR | apply zS); exact HO_7.out) hb); have n2_ := zA (Kd.N_below (Kd.N_elderB (by (with_reducible repeat (first | apply Kd.N_alloc | apply Kd.N_drewN | apply Kd.N_drew)); exact HO_8.out) gb482 (Nat.le_of_eq hg.symm)) hb); have n3_ := zA (Kd.V_below (Kd.V_elderB (by (with_reducible repeat (first | apply Kd.V_alloc | apply Kd.V_drewN | apply Kd.V_drew)); exact HL468_2.out) gb482 (Nat.le_of_eq hg.symm)) hb); have n4_ := zA (Kd.R_below (by (with_reducible repeat first | apply zQ | apply zR | apply zS); exact HO480.out) hb); have n5_ := zA (Kd.C_below (by repeat (first | (with_reducible exact HR468_2.out) | (with_reducible refine zT ?_ _) | (with_reducible refine zU ?_ _) | (with_reducible refine zV ?_) | exact HR468_2.out)) hb); have n6_ := zA (yE (g := gb469) (o := .cells #[.string ((rd_T89 t454 (t100.length : Int)).f0), .string ((rd_T89 t454 (t100.length : Int)).f1), .slice A468_2 ((rd_T89 t454 (t100.length : Int)).f2).length c468_2] 89 (0, 0)) (by (with_reducible repeat (first | refine zL ?_ _ | refine zN ?_ | refine zM ?_ _)); exact BK469.out) hb); have n7_ := zA (zAD (by repeat (first | (with_reducible first | exact HB.out | apply zH | apply zF | apply zG | refine zI ?_ GE469.out) | exact HB.out)) hb); have n8_ := zA (hbox); have n9_ := zA ((by rw [hg]; exact (zAE (by repeat (first | (with_reducible first | exact HB.out | apply zH | apply zF | apply zG | refine zI ?_ GE469.out) | exact HB.out))) : w.heap.size ≤ gb482)); have n10_ := zA ((by rw [hg]; exact (zAE (by repeat (first | (with_reducible first | exact HB.out | apply zH | apply zF | apply zG | refine zI ?_ GE469.out) | exact HB.out))) : w.heap.size ≤ gb482)); have n11_ := zA ((by rw [hg]; exact zK (blk_lt (g := gb469) (o := .cells #[.string ((rd_T89 t454 (t100.length : Int)).f0), .string ((rd_T89 t454 (t100.length : Int)).f1), .slice A468_2 ((rd_T89 t454 (t100.length : Int)).f2).length c468_2] 89 (0, 0)) (by (with_reducible repeat (first | refine zL ?_ _ | refine zN ?_ | refine zM ?_ _)); exact BK469.out)) : gb469 ≠ gb482)); have n12_ := zA ((by rw [hg]; exact Nat.ne_of_gt (blk_lt (g := gb469) (o := .cells #[.string ((rd_T89 t454 (t100.length : Int)).f0), .string ((rd_T89 t454 (t100.length : Int)).f1), .slice A468_2 ((rd_T89 t454 (t100.length : Int)).f2).length c468_2] 89 (0, 0)) (by (with_reducible repeat (first | refine zL ?_ _ | refine zN ?_ | refine zM ?_ _)); exact BK469.out)) : gb482 ≠ gb469)); clear HO_5; clear HO_7; clear HO_8; clear HL468_2; clear HO480; clear HR468_2; clear BK469; clear HB; have HO_5 := n0_; have HO_7 := n1_; have HO_8 := n2_; have HL468_2 := n3_; have HO480 := n4_; have HR468_2 := n5_; have BK469 := n6_; have HB := n7_; have BK482 := n8_; have GW482 := n9_; have GE482 := n10_; have NB469_482 := n11_; have NB482_469 := n12_; clear n0_ n1_ n2_ n3_ n4_ n5_ n6_ n7_ n8_ n9_ n10_ n11_ n12_; clear hb hbox hg; have hnb59 := NB482_469.out; have hnc59 := NB469_482.out; have hcz60_0 : w58.cell? ⟨gb482, 0, none⟩ = some (.string (⟨#[]⟩ : ByteArray)) := (zP BK482.out 0).trans rfl; have hcz60_1 : w58.cell? ⟨gb482, 1, none⟩ = some (.string (⟨#[]⟩ : ByteArray)) := (zP BK482.out 1).trans rfl; have hcz60_2 : w58.cell? ⟨gb482, 2, none⟩ = some (.slice none 0 0) := (zP BK482.out 2).trans rfl; have hfz60_0 := zO BK482.out 0; have hfz60_1 := zO BK482.out 1; have hfz60_2 := zO BK482.out 2; obtain ⟨Ao61, co61, eo61⟩ := Kd.R_slice HO480.out; subst eo61) | ((with_reducible refine yB (f := 60) rfl ?_); refine goesL_ (some 130) rfl rfl Try.func60 (by kernel_rfl) rfl #[.slice (some ad468) t454.length co50] rfl (by (try simp only [zAA, zAB, zAC]); first | done | rfl | (simp only [zZ, zY]; rfl)) ?_; (with_reducible refine (impl_GoodChain.calls kj8 _ _ t454 true _ ?side1 ?side2 A36.out).mono ?_); (case side1 => refine (Kd.N_reads' (e := 89) (base := w.heap.size) (ok := fun k_ => ((((some k_ ≠ (.slice Ao11 t100.length co11 : Value).ownBlock ∧ some k_ ≠ (.slice Ao12 t451.length co12 : Value).ownBlock) ∧ k_ ≠ gb469) ∧ some k_ ≠ (.slice Ao61 t478.length co61 : Value).ownBlock) ∧ k_ ≠ gb482)) (n := t454.length) (c := co50) ?_).2.2; exact (by (with_reducible repeat (first | apply Kd.N_alloc | apply Kd.N_drewN | apply Kd.N_drew)); exact (Kd.N_mono (Kd.N_far (p := ⟨gb482, 2, none⟩) (Kd.N_far (p := ⟨gb482, 1, none⟩) (Kd.N_far (p := ⟨gb482, 0, none⟩) (Kd.N_mono HO_8.out (fun k_ hk => (⟨hk, hk.2⟩ : _ ∧ k_ ≠ gb482))) (fun _ hk => hk.2) (.string t476)) (fun _ hk => hk.2) (.string t477)) (fun _ hk => hk.2) (.slice Ao61 t478.length co61)) (fun _ h_ => h_.1)))); (case side2 => exact (Kd.N_reads' HO_8.out).2.1); rintro e w62 ⟨rfl, hb⟩; refine ⟨_, rfl, ?_⟩; have n0_ := zA (Kd.N_below (by (with_reducible repeat (first | apply Kd.N_alloc | apply Kd.N_drewN | apply Kd.N_drew)); exact (Kd.N_mono (Kd.N_far (p := ⟨gb482, 2, none⟩) (Kd.N_far (p := ⟨gb482, 1, none⟩) (Kd.N_far (p := ⟨gb482, 0, none⟩) (Kd.N_mono HO_5.out (fun k_ hk => (⟨hk, hk.2⟩ : _ ∧ k_ ≠ gb482))) (fun _ hk => hk.2) (.string t476)) (fun _ hk => hk.2) (.string t477)) (fun _ hk => hk.2) (.slice Ao61 t478.length co61)) (fun _ h_ => h_.1))) hb); have n1_ := zA (Kd.R_below (by (with_reducible repeat first | apply zQ | apply zR | apply zS); exact (yC (Kd.R_far (p := ⟨gb482, 2, none⟩) (Kd.R_far (p := ⟨gb482, 1, none⟩) (Kd.R_far (p := ⟨gb482, 0, none⟩) (Kd.R_types HO_7.out BK482.out (by decide)) (fun _ hk => hk.2) (.string t476)) (fun _ hk => hk.2) (.string t477)) (fun _ hk => hk.2) (.slice Ao61 t478.length co61)) (fun _ h_ => h_.1))) hb); have n2_ := zA (Kd.N_below (by (with_reducible repeat (first | apply Kd.N_alloc | apply Kd.N_drewN | apply Kd.N_drew)); exact (Kd.N_mono (Kd.N_far (p := ⟨gb482, 2, none⟩) (Kd.N_far (p := ⟨gb482, 1, none⟩) (Kd.N_far (p := ⟨gb482, 0, none⟩) (Kd.N_mono HO_8.out (fun k_ hk => (⟨hk, hk.2⟩ : _ ∧ k_ ≠ gb482))) (fun _ hk => hk.2) (.string t476)) (fun _ hk => hk.2) (.string t477)) (fun _ hk => hk.2) (.slice Ao61 t478.length co61)) (fun _ h_ => h_.1))) hb); have n3_ := zA (Kd.V_below (by (with_reducible repeat (first | apply Kd.V_alloc | apply Kd.V_drewN | apply Kd.V_drew)); exact (Kd.V_mono (Kd.V_far (p := ⟨gb482, 2, none⟩) (Kd.V_far (p := ⟨gb482, 1, none⟩) (Kd.V_far (p := ⟨gb482, 0, none⟩) (Kd.V_mono HL468_2.out (fun k_ hk => (⟨hk, hk.2⟩ : _ ∧ k_ ≠ gb482))) (fun _ hk => hk.2) (.string t476)) (fun _ hk => hk.2) (.string t477)) (fun _ hk => hk.2) (.slice Ao61 t478.length co61)) (fun _ h_ => h_.1))) hb); have n4_ := zA (Kd.R_below (by (with_reducible repeat first | apply zQ | apply zR | apply zS); exact (yC (Kd.R_far (p := ⟨gb482, 2, none⟩) (Kd.R_far (p := ⟨gb482, 1, none⟩) (Kd.R_far (p := ⟨gb482, 0, none⟩) (Kd.R_types HO480.out BK482.out (by decide)) (fun _ hk => hk.2) (.string t476)) (fun _ hk => hk.2) (.string t477)) (fun _ hk => hk.2) (.slice Ao61 t478.length co61)) (fun _ h_ => h_.1))) hb); have n5_ := zA (Kd.C_below ((Kd.V_reads' (by (with_reducible repeat (first | apply Kd.V_alloc | apply Kd.V_drewN | apply Kd.V_drew)); exact (Kd.V_mono (Kd.V_far (p := ⟨gb482, 2, none⟩) (Kd.V_far (p := ⟨gb482, 1, none⟩) (Kd.V_far (p := ⟨gb482, 0, none⟩) (Kd.V_mono HL468_2.out (fun k_ hk => (⟨hk, hk.2⟩ : _ ∧ k_ ≠ gb482))) (fun _ hk => hk.2) (.string t476)) (fun _ hk => hk.2) (.string t477)) (fun _ hk => hk.2) (.slice Ao61 t478.length co61)) (fun _ h_ => h_.1)))).2.2) hb); have n6_ := zA (yE (g := gb469) (o := .cells #[.string ((rd_T89 t454 (t100.length : Int)).f0), .string ((rd_T89 t454 (t100.length : Int)).f1), .slice A468_2 ((rd_T89 t454 (t100.length : Int)).f2).length c468_2] 89 (0, 0)) (by (with_reducible repeat (first | refine zL ?_ _ | refine zN ?_ | refine zM ?_ _)); refine blk_far ?_ NB469_482.out _; (with_reducible repeat (first | refine zL ?_ _ | refine zN ?_ | refine zM ?_ _)); refine blk_far ?_ NB469_482.out _; (with_reducible repeat (first | refine zL ?_ _ | refine zN ?_ | refine zM ?_ _)); refine blk_far ?_ NB469_482.out _; (with_reducible repeat (first | refine zL ?_ _ | refine zN ?_ | refine zM ?_ _)); exact BK469.out) hb); have n7_ := zA (yE (g := gb482) (o := .cells #[.string t476, .string t477, .slice Ao61 t478.length co61] 89 (0, 0)) (by (with_reducible repeat (first | refine zL ?_ _ | refine zN ?_ | refine zM ?_ _)); refine blk_put (cs := #[.string t476, .string t477, .slice none 0 0]) ?_ 2 _ rfl; (with_reducible repeat (first | refine zL ?_ _ | refine zN ?_ | refine zM ?_ _)); refine blk_put (cs := #[.string t476, .string (⟨#[]⟩ : ByteArray), .slice none 0 0]) ?_ 1 _ rfl; (with_reducible repeat (first | refine zL ?_ _ | refine zN ?_ | refine zM ?_ _)); refine blk_put (cs := #[.string (⟨#[]⟩ : ByteArray), .string (⟨#[]⟩ : ByteArray), .slice none 0 0]) ?_ 0 _ rfl; (with_reducible repeat (first | refine zL ?_ _ | refine zN ?_ | refine zM ?_ _)); exact BK482.out) hb); have n8_ := zA (zAD (by repeat (first | (with_reducible first | exact HB.out | apply zH | apply zF | apply zG | refine zI ?_ GE469.out | refine zI ?_ GE482.out) | exact HB.out)) hb); clear HO_5; clear HO_7; clear HO_8; clear HL468_2; clear HO480; clear HR468_2; clear BK469; clear BK482; clear HB; have HO_5 := n0_; have HO_7 := n1_; have HO_8 := n2_; have HL468_2 := n3_; have HO480 := n4_; have HR468_2 := n5_; have BK469 := n6_; have BK482 := n7_; have HB := n8_; clear n0_ n1_ n2_ n3_ n4_ n5_ n6_ n7_ n8_; (try clear hb); (try clear hk); have hcz63_0 : w62.cell? ⟨gb469, 0, none⟩ = some (.string ((rd_T89 t454 (t100.length : Int)).f0)) := (zP BK469.out 0).trans rfl; have hcz63_1 : w62.cell? ⟨gb469, 1, none⟩ = some (.string ((rd_T89 t454 (t100.length : Int)).f1)) := (zP BK469.out 1).trans rfl; have hcz63_2 : w62.cell? ⟨gb469, 2, none⟩ = some (.slice A468_2 ((rd_T89 t454 (t100.length : Int)).f2).length c468_2) := (zP BK469.out 2).trans rfl; have hfz63_0 := zO BK469.out 0; have hfz63_1 := zO BK469.out 1; have hfz63_2 := zO BK469.out 2) | (go_at_call 26; (with_reducible refine (laws_sameTexts.calls kj8 _ _ ((rd_T89 t454 (t100.length : Int)).f2) _ _ t451 true _ ?side1 ?side2 ?side3 ?side4 A41.out).mono ?_); (case side1 => repeat (first | exact (by repeat (first | (with_reducible exact HR468_2.out) | (with_reducible refine zT ?_ _) | (with_reducible refine zU ?_ _) | (with_reducible refine zV ?_) | exact HR468_2.out)) | (with_reducible refine zT ?_ _) | (with_reducible refine zU ?_ _) | (with_reducible refine zV ?_))); (case side2 => exact HC468_2.out); (case side3 => repeat (first | exact (yD HO_7.out).2.2 | (with_reducible refine zT ?_ _) | (with_reducible refine zU ?_ _) | (with_reducible refine zV ?_))); (case side4 => exact (yD HO_7.out).2.1); rintro e w' ⟨rfl, ⟨nd, rfl⟩⟩; have hcz64_0 : w62.cell? ⟨gb482, 0, none⟩ = some (.string t476) := (zP BK482.out 0).trans rfl; have hcz64_1 : w62.cell? ⟨gb482, 1, none⟩ = some (.string t477) := (zP BK482.out 1).trans rfl; have hcz64_2 : w62.cell? ⟨gb482, 2, none⟩ = some (.slice Ao61 t478.length co61) := (zP BK482.out 2).trans rfl; have hfz64_0 := zO BK482.out 0; have hfz64_1 := zO BK482.out 1; have hfz64_2 := zO BK482.out 2) | (go_at_call 64; (with_reducible refine (laws_sameBlock.calls kj8 t476 t477 _ _ t478 ((rd_T89 t454 (t100.length : Int)).f0) ((rd_T89 t454 (t100.length : Int)).f1) _ _ ((rd_T89 t454 (t100.length : Int)).f2) true _ ?side1 ?side2 ?side3 ?side4 A48.out).mono ?_); (case side1 => repeat (first | exact (yD HO480.out).2.2 | (with_reducible refine zT ?_ _) | (with_reducible refine zU ?_ _) | (with_reducible refine zV ?_))); (case side2 => exact (yD HO480.out).2.1); (case side3 => repeat (first | exact (by repeat (first | (with_reducible exact HR468_2.out) | (with_reducible refine zT ?_ _) | (with_reducible refine zU ?_ _) | (with_reducible refine zV ?_) | exact HR468_2.out)) | (with_reducible refine zT ?_ _) | (with_reducible refine zU ?_ _) | (with_reducible refine zV ?_))); (case side4 => exact HC468_2.out); rintro e w65 ⟨rfl, hb⟩; have n0_ := zA (Kd.N_below (by (with_reducible repeat (first | apply Kd.N_alloc | apply Kd.N_drewN | apply Kd.N_drew)); exact HO_5.out) hb); have n1_ := zA (Kd.R_below (by (with_reducible repeat first | apply zQ | apply zR | apply zS); exact HO_7.out) hb); have n2_ := zA (Kd.N_below (by (with_reducible repeat (first | apply Kd.N_alloc | apply Kd.N_drewN | apply Kd.N_drew)); exact HO_8.out) hb); have n3_ := zA (Kd.V_below (by (with_reducible repeat (first | apply Kd.V_alloc | apply Kd.V_drewN | apply Kd.V_drew)); exact HL468_2.out) hb); have n4_ := zA (Kd.R_below (by (with_reducible repeat first | apply zQ | apply zR | apply zS); exact HO480.out) hb); have n5_ := zA (Kd.C_below (by repeat (first | (with_reducible exact HR468_2.out) | (with_reducible refine zT ?_ _) | (with_reducible refine zU ?_ _) | (with_reducible refine zV ?_) | exact HR468_2.out)) hb); have n6_ := zA (yE (g := gb469) (o := .cells #[.string ((rd_T89 t454 (t100.length : Int)).f0), .string ((rd_T89 t454 (t100.length : Int)).f1), .slice A468_2 ((rd_T89 t454 (t100.length : Int)).f2).length c468_2] 89 (0, 0)) (by (with_reducible repeat (first | refine zL ?_ _ | refine zN ?_ | refine zM ?_ _)); exact BK469.out) hb); have n7_ := zA (yE (g := gb482) (o := .cells #[.string t476, .string t477, .slice Ao61 t478.length co61] 89 (0, 0)) (by (with_reducible repeat (first | refine zL ?_ _ | refine zN ?_ | refine zM ?_ _)); exact BK482.out) hb); have n8_ := zA (zAD (by repeat (first | (with_reducible first | exact HB.out | apply zH | apply zF | apply zG | refine zI ?_ GE469.out | refine zI ?_ GE482.out) | exact HB.out)) hb); clear HO_5; clear HO_7; clear HO_8; clear HL468_2; clear HO480; clear HR468_2; clear BK469; clear BK482; clear HB; have HO_5 := n0_; have HO_7 := n1_; have HO_8 := n2_; have HL468_2 := n3_; have HO480 := n4_; have HR468_2 := n5_; have BK469 := n6_; have BK482 := n7_; have HB := n8_; clear n0_ n1_ n2_ n3_ n4_ n5_ n6_ n7_ n8_; (try clear hb)))
                     go_meet
                     case rel => exact ⟨_, H', ⟨by have := HJ8.out; first | omega | exact Nat.le_refl _⟩, ⟨by repeat (first | (with_reducible first | exact HB.out | apply zH | apply zF | apply zG | refine zI ?_ GE469.out | refine zI ?_ GE482.out) | exact HB.out)⟩⟩
                   ·replace c49 := Bool.eq_false_iff.mpr c49
                    subst c49; have H1 : (some false) = some r := by rw [if_neg (show ¬ (false = true) by decide)] at H; exact H
                    clear H; have H := H1; clear H1
                    as_aux_lemma =>
                     exact absurd ((Option.some.inj H).trans hr_.out) (by decide)
                  ·replace c47 := Bool.eq_false_iff.mpr c47
                   subst c47; have H1 : (some false) = some r := by rw [if_neg (show ¬ (false = true) by decide)] at H; exact H
                   clear H; have H := H1; clear H1
                   as_aux_lemma =>
                    exact absurd ((Option.some.inj H).trans hr_.out) (by decide)
                 ·replace c46 := Bool.eq_false_iff.mpr c46
                  subst c46; have H1 : (some false) = some r := by rw [if_neg (show ¬ (false = true) by decide)] at H; exact H
                  clear H; have H := H1; clear H1
                  as_aux_lemma =>
                   exact absurd ((Option.some.inj H).trans hr_.out) (by decide)
                ·rw [if_neg c45] at H
                 have c45b0 : (t470.toList == t472.toList) = false := beq_eq_false_iff_ne.mpr c45; have c45b1 : (t470.toList != t472.toList) = true := bne_iff_ne.mpr c45
                 as_aux_lemma =>
                  exact absurd ((Option.some.inj H).trans hr_.out) (by decide)
               ·replace c44 := Bool.eq_false_iff.mpr c44
                subst c44; have H1 : (some false) = some r := by rw [if_neg (show ¬ (false = true) by decide)] at H; exact H
                clear H; have H := H1; clear H1
                as_aux_lemma =>
                 exact absurd ((Option.some.inj H).trans hr_.out) (by decide)
              ·replace c43 := Bool.eq_false_iff.mpr c43
               subst c43; have H1 : (some false) = some r := by rw [if_neg (show ¬ (false = true) by decide)] at H; exact H
               clear H; have H := H1; clear H1
               as_aux_lemma =>
                exact absurd ((Option.some.inj H).trans hr_.out) (by decide)
             ·replace c42 := Bool.eq_false_iff.mpr c42
              subst c42; have H1 : (some false) = some r := by rw [if_neg (show ¬ (false = true) by decide)] at H; exact H
              clear H; have H := H1; clear H1
              as_aux_lemma =>
               exact absurd ((Option.some.inj H).trans hr_.out) (by decide)
            ·rw [if_neg c40] at H
             have c40b0 : (((rd_T89 t454 (t100.length : Int)).f1).toList == t450.toList) = false := beq_eq_false_iff_ne.mpr c40; have c40b1 : (((rd_T89 t454 (t100.length : Int)).f1).toList != t450.toList) = true := bne_iff_ne.mpr c40
             as_aux_lemma =>
              exact absurd ((Option.some.inj H).trans hr_.out) (by decide)
           ·rw [if_neg c39] at H
            have c39b0 : (((rd_T89 t454 (t100.length : Int)).f0).toList == t462.toList) = false := beq_eq_false_iff_ne.mpr c39; have c39b1 : (((rd_T89 t454 (t100.length : Int)).f0).toList != t462.toList) = true := bne_iff_ne.mpr c39
            as_aux_lemma =>
             exact absurd ((Option.some.inj H).trans hr_.out) (by decide)
          ·replace c38 := Bool.eq_false_iff.mpr c38
           subst c38; have H1 : (some false) = some r := by rw [if_neg (show ¬ (false = true) by decide)] at H; exact H
           clear H; have H := H1; clear H1
           as_aux_lemma =>
            exact absurd ((Option.some.inj H).trans hr_.out) (by decide)
         ·replace c37 := Bool.eq_false_iff.mpr c37
          subst c37; have H1 : (some false) = some r := by rw [if_neg (show ¬ (false = true) by decide)] at H; exact H
          clear H; have H := H1; clear H1
          as_aux_lemma =>
           exact absurd ((Option.some.inj H).trans hr_.out) (by decide)
        ·rw [if_neg c31] at H
         exact absurd H (by simp)
       ·rw [if_neg c30] at H
        exact absurd H (by simp)
      ·replace c29 := Bool.eq_false_iff.mpr c29
       subst c29; have H1 : (laws_FnChain.j1 kj8 l1) = some r := by rw [if_neg (show ¬ (false = true) by decide)] at H; exact H
       clear H; have H := H1; clear H1
       as_aux_lemma =>
        have H' := zA H; clear H; go_wp2; go_meet
        case rel => exact ⟨_, H', ⟨by have := HJ8.out; first | omega | exact Nat.le_refl _⟩, ⟨by (with_reducible repeat first | exact HB.out | apply zH | apply zF | apply zG) <;> exact HB.out⟩⟩
     case rest =>
      clear HC28
      try clear c1
      try clear c2
      try clear p2
      try clear c3
      try clear c3b0
      try clear c4
      try clear p4
      try clear q4
      try clear hx4
      try clear c5
      try clear c6
      try clear p6
      try clear c7
      try clear c12
      try clear c15
      try clear c17
      try clear c17b0
      try clear c17b1
      try clear c17b2
      try clear c19
      try clear c20
      try clear c20b0
      try clear c20b1
      try clear c20b2
      try clear c21
      try clear c21b0
      try clear c21b1
      try clear c27
      try clear c29
      try clear c30
      try clear c30b0
      try clear c30b1
      try clear c31
      try clear c31b0
      try clear c31b1
      try clear c37
      try clear c38
      try clear c39
      try clear c39b0
      try clear c39b1
      try clear c40
      try clear c40b0
      try clear c40b1
      try clear c41
      try clear c42
      try clear c43
      try clear c44
      try clear c45
      try clear c45b0
      try clear c45b1
      try clear c46
      try clear p46
      try clear q46
      try clear hx46
      try clear c47
      try clear c49
      try clear c58
      try clear c59
      try clear c60
      try clear c61
      try clear c62
      try clear c63
      try clear p64
      try clear hcz52_0
      try clear hcz52_1
      try clear hcz52_2
      try clear hcz55_0
      try clear hcz55_1
      try clear hcz55_2
      try clear hcz60_0
      try clear hcz60_1
      try clear hcz60_2
      try clear hcz63_0
      try clear hcz63_1
      try clear hcz63_2
      try clear hcz64_0
      try clear hcz64_1
      try clear hcz64_2
      try clear hfz52_0
      try clear hfz52_1
      try clear hfz52_2
      try clear hfz55_0
      try clear hfz55_1
      try clear hfz55_2
      try clear hfz60_0
      try clear hfz60_1
      try clear hfz60_2
      try clear hfz63_0
      try clear hfz63_1
      try clear hfz63_2
      try clear hfz64_0
      try clear hfz64_1
      try clear hfz64_2
      try clear hx468_0
      try clear hx468_1
      try clear hx468_2
      try clear p2
      try clear p468
      try clear p6
      try clear q468
      obtain ⟨kq, HA, HJ27, HB⟩ := hcut
      cases kq with
      | zero => exact absurd HA.out (by simp [laws_FnChain.j1])
      | succ kj27 =>
       have H := HA.out; clear HA; simp only [laws_FnChain.j1] at H; replace H := zAF H; obtain ⟨⟨t486, t487, t488⟩, A660, H⟩ := H; replace H : ((impl_BlockBytes.f kj27 t486 t487 t488).bind fun bt492 => ((spec_BlockBytes.f kj27 t486 t487 t488).bind fun bt494 => ((spec_DrawBlockDigest.f kj27 l1).bind fun bt496 => ((impl_BlockDigest.f kj27 bt496.1 bt496.2.1 bt496.2.2).bind fun bt502 => ((spec_BlockDigest.f kj27 bt496.1 bt496.2.1 bt496.2.2).bind fun bt504 => ((spec_DrawReadBlock.f kj27 l1).bind fun t506 => ((impl_ReadBlock.f kj27 t506).bind fun bt507 => ((spec_ReadBlock.f kj27 t506).bind fun bt514 => (if (bt492.2 != bt494.2) = true then (laws_FnChain.j2 kj27 t506 bt507.2.2.2 true bt507.1 bt507.2.1 bt507.2.2.1) else (if bt492.1.toList = bt494.1.toList then (if (bt502.2 != bt504.2) = true then (laws_FnChain.j2 kj27 t506 bt507.2.2.2 true bt507.1 bt507.2.1 bt507.2.2.1) else (if bt502.1.toList = bt504.1.toList then (if (bt507.2.2.2 != bt514.2.2.2) = true then (laws_FnChain.j2 kj27 t506 bt507.2.2.2 true bt507.1 bt507.2.1 bt507.2.2.1) else ((laws_sameBlock.f kj27 bt507.1 bt507.2.1 bt507.2.2.1 bt514.1 bt514.2.1 bt514.2.2.1).bind fun t521 => (if t521 = true then ((impl_GoodBlock.f kj27 t486 t487 t488).bind fun t522 => (laws_FnChain.j2 kj27 t506 bt507.2.2.2 (t522 != bt492.2) bt507.1 bt507.2.1 bt507.2.2.1)) else (laws_FnChain.j2 kj27 t506 bt507.2.2.2 true bt507.1 bt507.2.1 bt507.2.2.1)))) else (laws_FnChain.j2 kj27 t506 bt507.2.2.2 true bt507.1 bt507.2.1 bt507.2.2.1))) else (laws_FnChain.j2 kj27 t506 bt507.2.2.2 true bt507.1 bt507.2.1 bt507.2.2.1))))))))))) = some r := H; have A66 := zA A660; clear A660; replace H := zAF H; obtain ⟨⟨t492, t493⟩, A670, H⟩ := H; replace H : ((spec_BlockBytes.f kj27 t486 t487 t488).bind fun bt494 => ((spec_DrawBlockDigest.f kj27 l1).bind fun bt496 => ((impl_BlockDigest.f kj27 bt496.1 bt496.2.1 bt496.2.2).bind fun bt502 => ((spec_BlockDigest.f kj27 bt496.1 bt496.2.1 bt496.2.2).bind fun bt504 => ((spec_DrawReadBlock.f kj27 l1).bind fun t506 => ((impl_ReadBlock.f kj27 t506).bind fun bt507 => ((spec_ReadBlock.f kj27 t506).bind fun bt514 => (if (t493 != bt494.2) = true then (laws_FnChain.j2 kj27 t506 bt507.2.2.2 true bt507.1 bt507.2.1 bt507.2.2.1) else (if t492.toList = bt494.1.toList then (if (bt502.2 != bt504.2) = true then (laws_FnChain.j2 kj27 t506 bt507.2.2.2 true bt507.1 bt507.2.1 bt507.2.2.1) else (if bt502.1.toList = bt504.1.toList then (if (bt507.2.2.2 != bt514.2.2.2) = true then (laws_FnChain.j2 kj27 t506 bt507.2.2.2 true bt507.1 bt507.2.1 bt507.2.2.1) else ((laws_sameBlock.f kj27 bt507.1 bt507.2.1 bt507.2.2.1 bt514.1 bt514.2.1 bt514.2.2.1).bind fun t521 => (if t521 = true then ((impl_GoodBlock.f kj27 t486 t487 t488).bind fun t522 => (laws_FnChain.j2 kj27 t506 bt507.2.2.2 (t522 != t493) bt507.1 bt507.2.1 bt507.2.2.1)) else (laws_FnChain.j2 kj27 t506 bt507.2.2.2 true bt507.1 bt507.2.1 bt507.2.2.1)))) else (laws_FnChain.j2 kj27 t506 bt507.2.2.2 true bt507.1 bt507.2.1 bt507.2.2.1))) else (laws_FnChain.j2 kj27 t506 bt507.2.2.2 true bt507.1 bt507.2.1 bt507.2.2.1)))))))))) = some r := H; have A67 := zA A670; clear A670; replace H := zAF H; obtain ⟨⟨t494, t495⟩, A680, H⟩ := H; replace H : ((spec_DrawBlockDigest.f kj27 l1).bind fun bt496 => ((impl_BlockDigest.f kj27 bt496.1 bt496.2.1 bt496.2.2).bind fun bt502 => ((spec_BlockDigest.f kj27 bt496.1 bt496.2.1 bt496.2.2).bind fun bt504 => ((spec_DrawReadBlock.f kj27 l1).bind fun t506 => ((impl_ReadBlock.f kj27 t506).bind fun bt507 => ((spec_ReadBlock.f kj27 t506).bind fun bt514 => (if (t493 != t495) = true then (laws_FnChain.j2 kj27 t506 bt507.2.2.2 true bt507.1 bt507.2.1 bt507.2.2.1) else (if t492.toList = t494.toList then (if (bt502.2 != bt504.2) = true then (laws_FnChain.j2 kj27 t506 bt507.2.2.2 true bt507.1 bt507.2.1 bt507.2.2.1) else (if bt502.1.toList = bt504.1.toList then (if (bt507.2.2.2 != bt514.2.2.2) = true then (laws_FnChain.j2 kj27 t506 bt507.2.2.2 true bt507.1 bt507.2.1 bt507.2.2.1) else ((laws_sameBlock.f kj27 bt507.1 bt507.2.1 bt507.2.2.1 bt514.1 bt514.2.1 bt514.2.2.1).bind fun t521 => (if t521 = true then ((impl_GoodBlock.f kj27 t486 t487 t488).bind fun t522 => (laws_FnChain.j2 kj27 t506 bt507.2.2.2 (t522 != t493) bt507.1 bt507.2.1 bt507.2.2.1)) else (laws_FnChain.j2 kj27 t506 bt507.2.2.2 true bt507.1 bt507.2.1 bt507.2.2.1)))) else (laws_FnChain.j2 kj27 t506 bt507.2.2.2 true bt507.1 bt507.2.1 bt507.2.2.1))) else (laws_FnChain.j2 kj27 t506 bt507.2.2.2 true bt507.1 bt507.2.1 bt507.2.2.1))))))))) = some r := H; have A68 := zA A680; clear A680; replace H := zAF H; obtain ⟨⟨t496, t497, t498⟩, A690, H⟩ := H; replace H : ((impl_BlockDigest.f kj27 t496 t497 t498).bind fun bt502 => ((spec_BlockDigest.f kj27 t496 t497 t498).bind fun bt504 => ((spec_DrawReadBlock.f kj27 l1).bind fun t506 => ((impl_ReadBlock.f kj27 t506).bind fun bt507 => ((spec_ReadBlock.f kj27 t506).bind fun bt514 => (if (t493 != t495) = true then (laws_FnChain.j2 kj27 t506 bt507.2.2.2 true bt507.1 bt507.2.1 bt507.2.2.1) else (if t492.toList = t494.toList then (if (bt502.2 != bt504.2) = true then (laws_FnChain.j2 kj27 t506 bt507.2.2.2 true bt507.1 bt507.2.1 bt507.2.2.1) else (if bt502.1.toList = bt504.1.toList then (if (bt507.2.2.2 != bt514.2.2.2) = true then (laws_FnChain.j2 kj27 t506 bt507.2.2.2 true bt507.1 bt507.2.1 bt507.2.2.1) else ((laws_sameBlock.f kj27 bt507.1 bt507.2.1 bt507.2.2.1 bt514.1 bt514.2.1 bt514.2.2.1).bind fun t521 => (if t521 = true then ((impl_GoodBlock.f kj27 t486 t487 t488).bind fun t522 => (laws_FnChain.j2 kj27 t506 bt507.2.2.2 (t522 != t493) bt507.1 bt507.2.1 bt507.2.2.1)) else (laws_FnChain.j2 kj27 t506 bt507.2.2.2 true bt507.1 bt507.2.1 bt507.2.2.1)))) else (laws_FnChain.j2 kj27 t506 bt507.2.2.2 true bt507.1 bt507.2.1 bt507.2.2.1))) else (laws_FnChain.j2 kj27 t506 bt507.2.2.2 true bt507.1 bt507.2.1 bt507.2.2.1)))))))) = some r := H; have A69 := zA A690; clear A690; replace H := zAF H; obtain ⟨⟨t502, t503⟩, A700, H⟩ := H
       replace H : ((spec_BlockDigest.f kj27 t496 t497 t498).bind fun bt504 => ((spec_DrawReadBlock.f kj27 l1).bind fun t506 => ((impl_ReadBlock.f kj27 t506).bind fun bt507 => ((spec_ReadBlock.f kj27 t506).bind fun bt514 => (if (t493 != t495) = true then (laws_FnChain.j2 kj27 t506 bt507.2.2.2 true bt507.1 bt507.2.1 bt507.2.2.1) else (if t492.toList = t494.toList then (if (t503 != bt504.2) = true then (laws_FnChain.j2 kj27 t506 bt507.2.2.2 true bt507.1 bt507.2.1 bt507.2.2.1) else (if t502.toList = bt504.1.toList then (if (bt507.2.2.2 != bt514.2.2.2) = true then (laws_FnChain.j2 kj27 t506 bt507.2.2.2 true bt507.1 bt507.2.1 bt507.2.2.1) else ((laws_sameBlock.f kj27 bt507.1 bt507.2.1 bt507.2.2.1 bt514.1 bt514.2.1 bt514.2.2.1).bind fun t521 => (if t521 = true then ((impl_GoodBlock.f kj27 t486 t487 t488).bind fun t522 => (laws_FnChain.j2 kj27 t506 bt507.2.2.2 (t522 != t493) bt507.1 bt507.2.1 bt507.2.2.1)) else (laws_FnChain.j2 kj27 t506 bt507.2.2.2 true bt507.1 bt507.2.1 bt507.2.2.1)))) else (laws_FnChain.j2 kj27 t506 bt507.2.2.2 true bt507.1 bt507.2.1 bt507.2.2.1))) else (laws_FnChain.j2 kj27 t506 bt507.2.2.2 true bt507.1 bt507.2.1 bt507.2.2.1))))))) = some r := H; have A70 := zA A700; clear A700; replace H := zAF H; obtain ⟨⟨t504, t505⟩, A710, H⟩ := H; replace H : ((spec_DrawReadBlock.f kj27 l1).bind fun t506 => ((impl_ReadBlock.f kj27 t506).bind fun bt507 => ((spec_ReadBlock.f kj27 t506).bind fun bt514 => (if (t493 != t495) = true then (laws_FnChain.j2 kj27 t506 bt507.2.2.2 true bt507.1 bt507.2.1 bt507.2.2.1) else (if t492.toList = t494.toList then (if (t503 != t505) = true then (laws_FnChain.j2 kj27 t506 bt507.2.2.2 true bt507.1 bt507.2.1 bt507.2.2.1) else (if t502.toList = t504.toList then (if (bt507.2.2.2 != bt514.2.2.2) = true then (laws_FnChain.j2 kj27 t506 bt507.2.2.2 true bt507.1 bt507.2.1 bt507.2.2.1) else ((laws_sameBlock.f kj27 bt507.1 bt507.2.1 bt507.2.2.1 bt514.1 bt514.2.1 bt514.2.2.1).bind fun t521 => (if t521 = true then ((impl_GoodBlock.f kj27 t486 t487 t488).bind fun t522 => (laws_FnChain.j2 kj27 t506 bt507.2.2.2 (t522 != t493) bt507.1 bt507.2.1 bt507.2.2.1)) else (laws_FnChain.j2 kj27 t506 bt507.2.2.2 true bt507.1 bt507.2.1 bt507.2.2.1)))) else (laws_FnChain.j2 kj27 t506 bt507.2.2.2 true bt507.1 bt507.2.1 bt507.2.2.1))) else (laws_FnChain.j2 kj27 t506 bt507.2.2.2 true bt507.1 bt507.2.1 bt507.2.2.1)))))) = some r := H; have A71 := zA A710; clear A710; replace H := zAF H; obtain ⟨t506, A720, H⟩ := H; replace H : ((impl_ReadBlock.f kj27 t506).bind fun bt507 => ((spec_ReadBlock.f kj27 t506).bind fun bt514 => (if (t493 != t495) = true then (laws_FnChain.j2 kj27 t506 bt507.2.2.2 true bt507.1 bt507.2.1 bt507.2.2.1) else (if t492.toList = t494.toList then (if (t503 != t505) = true then (laws_FnChain.j2 kj27 t506 bt507.2.2.2 true bt507.1 bt507.2.1 bt507.2.2.1) else (if t502.toList = t504.toList then (if (bt507.2.2.2 != bt514.2.2.2) = true then (laws_FnChain.j2 kj27 t506 bt507.2.2.2 true bt507.1 bt507.2.1 bt507.2.2.1) else ((laws_sameBlock.f kj27 bt507.1 bt507.2.1 bt507.2.2.1 bt514.1 bt514.2.1 bt514.2.2.1).bind fun t521 => (if t521 = true then ((impl_GoodBlock.f kj27 t486 t487 t488).bind fun t522 => (laws_FnChain.j2 kj27 t506 bt507.2.2.2 (t522 != t493) bt507.1 bt507.2.1 bt507.2.2.1)) else (laws_FnChain.j2 kj27 t506 bt507.2.2.2 true bt507.1 bt507.2.1 bt507.2.2.1)))) else (laws_FnChain.j2 kj27 t506 bt507.2.2.2 true bt507.1 bt507.2.1 bt507.2.2.1))) else (laws_FnChain.j2 kj27 t506 bt507.2.2.2 true bt507.1 bt507.2.1 bt507.2.2.1))))) = some r := H; have A72 := zA A720; clear A720; replace H := zAF H; obtain ⟨⟨t507, t508, t509, t512⟩, A730, H⟩ := H; replace H : ((spec_ReadBlock.f kj27 t506).bind fun bt514 => (if (t493 != t495) = true then (laws_FnChain.j2 kj27 t506 t512 true t507 t508 t509) else (if t492.toList = t494.toList then (if (t503 != t505) = true then (laws_FnChain.j2 kj27 t506 t512 true t507 t508 t509) else (if t502.toList = t504.toList then (if (t512 != bt514.2.2.2) = true then (laws_FnChain.j2 kj27 t506 t512 true t507 t508 t509) else ((laws_sameBlock.f kj27 t507 t508 t509 bt514.1 bt514.2.1 bt514.2.2.1).bind fun t521 => (if t521 = true then ((impl_GoodBlock.f kj27 t486 t487 t488).bind fun t522 => (laws_FnChain.j2 kj27 t506 t512 (t522 != t493) t507 t508 t509)) else (laws_FnChain.j2 kj27 t506 t512 true t507 t508 t509)))) else (laws_FnChain.j2 kj27 t506 t512 true t507 t508 t509))) else (laws_FnChain.j2 kj27 t506 t512 true t507 t508 t509)))) = some r := H; have A73 := zA A730; clear A730; replace H := zAF H; obtain ⟨⟨t514, t515, t516, t519⟩, A740, H⟩ := H; replace H : (if (t493 != t495) = true then (laws_FnChain.j2 kj27 t506 t512 true t507 t508 t509) else (if t492.toList = t494.toList then (if (t503 != t505) = true then (laws_FnChain.j2 kj27 t506 t512 true t507 t508 t509) else (if t502.toList = t504.toList then (if (t512 != t519) = true then (laws_FnChain.j2 kj27 t506 t512 true t507 t508 t509) else ((laws_sameBlock.f kj27 t507 t508 t509 t514 t515 t516).bind fun t521 => (if t521 = true then ((impl_GoodBlock.f kj27 t486 t487 t488).bind fun t522 => (laws_FnChain.j2 kj27 t506 t512 (t522 != t493) t507 t508 t509)) else (laws_FnChain.j2 kj27 t506 t512 true t507 t508 t509)))) else (laws_FnChain.j2 kj27 t506 t512 true t507 t508 t509))) else (laws_FnChain.j2 kj27 t506 t512 true t507 t508 t509))) = some r := H; have A74 := zA A740; clear A740; have HC75 := zA H; clear H; go_upto_region 27 with (first | ((with_reducible refine yB (f := 65) rfl ?_); refine goesL_ (some 183) rfl rfl Try.func65 (by kernel_rfl) rfl #[.slice A1 l1.length c1] rfl (by (try simp only [zAA, zAB, zAC]); first | done | rfl | (simp only [zZ, zY]; rfl)) ?_; (with_reducible refine (spec_DrawBlockBytes.calls kj27 _ _ l1 t486 t487 t488 _ ?side1 ?side2 A66.out).mono ?_); (case side1 => repeat (first | exact (Kd.C_below HR1.out HB.out) | (with_reducible refine zT ?_ _) | (with_reducible refine zU ?_ _) | (with_reducible refine zV ?_))); (case side2 => exact HC1.out); rintro e w76 ⟨v489, rfl, ho0, hb⟩; refine ⟨_, rfl, ?_⟩; have n0_ := zA (Kd.V_lower (Kd.V_mono (ok' := fun k_ => True) ho0 (fun k_ hk_ => trivial)) (zAE (by (with_reducible repeat first | exact HB.out | apply zH | apply zF | apply zG) <;> exact HB.out))); have n1_ := zA (zAD (by (with_reducible repeat first | exact HB.out | apply zH | apply zF | apply zG) <;> exact HB.out) hb); clear HB; have HO490 := n0_; have HB := n1_; clear n0_ n1_; (try clear hb); (try clear ho0)) | ((with_reducible refine gate_dst (N := 25) rfl ?_); refine box_event ?hg (N := 25) ?hd (cs := #[.string (⟨#[]⟩ : ByteArray), .string (⟨#[]⟩ : ByteArray), .slice none 0 0]) (t := 89) ?hr ?_; (case hd => rfl); (case hg => rfl); (case hr => first | (go_simp; done) | (go_simp; rfl)); intro gb491 hg w77 hbox hb; have n0_ := zA (Kd.V_below (Kd.V_elderB (by (with_reducible repeat (first | apply Kd.V_alloc | apply Kd.V_drewN | apply Kd.V_drew)); exact HO490.out) gb491 (Nat.le_of_eq hg.symm)) hb); have n1_ := zA (zAD (by (with_reducible repeat first | exact HB.out | apply zH | apply zF | apply zG) <;> exact HB.out) hb); have n2_ := zA (hbox); have n3_ := zA ((by rw [hg]; exact (zAE (by (with_reducible repeat first | exact HB.out | apply zH | apply zF | apply zG) <;> exact HB.out)) : w.heap.size ≤ gb491)); have n4_ := zA ((by rw [hg]; exact (zAE (by (with_reducible repeat first | exact HB.out | apply zH | apply zF | apply zG) <;> exact HB.out)) : w.heap.size ≤ gb491)); clear HO490; clear HB; have HO490 := n0_; have HB := n1_; have BK491 := n2_; have GW491 := n3_; have GE491 := n4_; clear n0_ n1_ n2_ n3_ n4_; clear hb hbox hg; have hcz78_0 : w77.cell? ⟨gb491, 0, none⟩ = some (.string (⟨#[]⟩ : ByteArray)) := (zP BK491.out 0).trans rfl; have hcz78_1 : w77.cell? ⟨gb491, 1, none⟩ = some (.string (⟨#[]⟩ : ByteArray)) := (zP BK491.out 1).trans rfl; have hcz78_2 : w77.cell? ⟨gb491, 2, none⟩ = some (.slice none 0 0) := (zP BK491.out 2).trans rfl; have hfz78_0 := zO BK491.out 0; have hfz78_1 := zO BK491.out 1; have hfz78_2 := zO BK491.out 2; obtain ⟨Ao79, co79, eo79⟩ := Kd.V_slice HO490.out; subst eo79) | ((with_reducible refine yB (f := 62) rfl ?_); refine goesL_ (some 186) rfl rfl Try.func62 (by kernel_rfl) rfl #[.agg #[.string t486, .string t487, .slice Ao79 t488.length co79]] rfl (by (try simp only [zAA, zAB, zAC]); first | done | rfl | (simp only [zZ, zY]; rfl)) ?_; (with_reducible refine (impl_BlockBytes.calls kj27 t486 t487 _ _ t488 t492 t493 _ ?side1 ?side2 A67.out).mono ?_); (case side1 => refine (Kd.V_reads' (e := 9) (base := w.heap.size) (ok := fun k_ => (True ∧ k_ ≠ gb491)) (n := t488.length) (c := co79) ?_).2.2; exact (by (with_reducible repeat (first | apply Kd.V_alloc | apply Kd.V_drewN | apply Kd.V_drew)); exact (Kd.V_mono (Kd.V_far (p := ⟨gb491, 2, none⟩) (Kd.V_far (p := ⟨gb491, 1, none⟩) (Kd.V_far (p := ⟨gb491, 0, none⟩) (Kd.V_mono HO490.out (fun k_ hk => (⟨hk, hk.2⟩ : _ ∧ k_ ≠ gb491))) (fun _ hk => hk.2) (.string t486)) (fun _ hk => hk.2) (.string t487)) (fun _ hk => hk.2) (.slice Ao79 t488.length co79)) (fun _ h_ => h_.1)))); (case side2 => exact (Kd.V_reads' HO490.out).2.1); rintro e w80 ⟨rfl, hb⟩; refine ⟨_, rfl, ?_⟩; have n0_ := zA (Kd.V_below (by (with_reducible repeat (first | apply Kd.V_alloc | apply Kd.V_drewN | apply Kd.V_drew)); exact (Kd.V_mono (Kd.V_far (p := ⟨gb491, 2, none⟩) (Kd.V_far (p := ⟨gb491, 1, none⟩) (Kd.V_far (p := ⟨gb491, 0, none⟩) (Kd.V_mono HO490.out (fun k_ hk => (⟨hk, hk.2⟩ : _ ∧ k_ ≠ gb491))) (fun _ hk => hk.2) (.string t486)) (fun _ hk => hk.2) (.string t487)) (fun _ hk => hk.2) (.slice Ao79 t488.length co79)) (fun _ h_ => h_.1))) hb); have n1_ := zA (yE (g := gb491) (o := .cells #[.string t486, .string t487, .slice Ao79 t488.length co79] 89 (0, 0)) (by (with_reducible repeat (first | refine zL ?_ _ | refine zN ?_ | refine zM ?_ _)); refine blk_put (cs := #[.string t486, .string t487, .slice none 0 0]) ?_ 2 _ rfl; (with_reducible repeat (first | refine zL ?_ _ | refine zN ?_ | refine zM ?_ _)); refine blk_put (cs := #[.string t486, .string (⟨#[]⟩ : ByteArray), .slice none 0 0]) ?_ 1 _ rfl; (with_reducible repeat (first | refine zL ?_ _ | refine zN ?_ | refine zM ?_ _)); refine blk_put (cs := #[.string (⟨#[]⟩ : ByteArray), .string (⟨#[]⟩ : ByteArray), .slice none 0 0]) ?_ 0 _ rfl; (with_reducible repeat (first | refine zL ?_ _ | refine zN ?_ | refine zM ?_ _)); exact BK491.out) hb); have n2_ := zA (zAD (by repeat (first | (with_reducible first | exact HB.out | apply zH | apply zF | apply zG | refine zI ?_ GE491.out) | exact HB.out)) hb); clear HO490; clear BK491; clear HB; have HO490 := n0_; have BK491 := n1_; have HB := n2_; clear n0_ n1_ n2_; (try clear hb); (try clear hk); have hcz81_0 : w80.cell? ⟨gb491, 0, none⟩ = some (.string t486) := (zP BK491.out 0).trans rfl; have hcz81_1 : w80.cell? ⟨gb491, 1, none⟩ = some (.string t487) := (zP BK491.out 1).trans rfl; have hcz81_2 : w80.cell? ⟨gb491, 2, none⟩ = some (.slice Ao79 t488.length co79) := (zP BK491.out 2).trans rfl; have hfz81_0 := zO BK491.out 0; have hfz81_1 := zO BK491.out 1; have hfz81_2 := zO BK491.out 2) | ((with_reducible refine yB (f := 66) rfl ?_); refine goesL_ (some 191) rfl rfl Try.func66 (by kernel_rfl) rfl #[.agg #[.string t486, .string t487, .slice Ao79 t488.length co79]] rfl (by (try simp only [zAA, zAB, zAC]); first | done | rfl | (simp only [zZ, zY]; rfl)) ?_; (with_reducible refine (spec_BlockBytes.calls kj27 t486 t487 _ _ t488 t494 t495 _ ?side1 ?side2 A68.out).mono ?_); (case side1 => repeat (first | exact (Kd.V_reads' HO490.out).2.2 | (with_reducible refine zT ?_ _) | (with_reducible refine zU ?_ _) | (with_reducible refine zV ?_))); (case side2 => exact (Kd.V_reads' HO490.out).2.1); rintro e w82 ⟨rfl, hb⟩; refine ⟨_, rfl, ?_⟩; have n0_ := zA (Kd.V_below (by (with_reducible repeat (first | apply Kd.V_alloc | apply Kd.V_drewN | apply Kd.V_drew)); exact HO490.out) hb); have n1_ := zA (yE (g := gb491) (o := .cells #[.string t486, .string t487, .slice Ao79 t488.length co79] 89 (0, 0)) (by (with_reducible repeat (first | refine zL ?_ _ | refine zN ?_ | refine zM ?_ _)); exact BK491.out) hb); have n2_ := zA (zAD (by repeat (first | (with_reducible first | exact HB.out | apply zH | apply zF | apply zG | refine zI ?_ GE491.out) | exact HB.out)) hb); clear HO490; clear BK491; clear HB; have HO490 := n0_; have BK491 := n1_; have HB := n2_; clear n0_ n1_ n2_; (try clear hb)) | ((with_reducible refine yB (f := 67) rfl ?_); refine goesL_ (some 195) rfl rfl Try.func67 (by kernel_rfl) rfl #[.slice A1 l1.length c1] rfl (by (try simp only [zAA, zAB, zAC]); first | done | rfl | (simp only [zZ, zY]; rfl)) ?_; (with_reducible refine (spec_DrawBlockDigest.calls kj27 _ _ l1 t496 t497 t498 _ ?side1 ?side2 A69.out).mono ?_); (case side1 => repeat (first | exact (Kd.C_below HR1.out HB.out) | (with_reducible refine zT ?_ _) | (with_reducible refine zU ?_ _) | (with_reducible refine zV ?_))); (case side2 => exact HC1.out); rintro e w83 ⟨v499, rfl, ho0, hb⟩; refine ⟨_, rfl, ?_⟩; have n0_ := zA (Kd.V_below (by (with_reducible repeat (first | apply Kd.V_alloc | apply Kd.V_drewN | apply Kd.V_drew)); exact HO490.out) hb); have n1_ := zA (Kd.V_lower (Kd.V_mono (ok' := fun k_ => k_ ≠ gb491) ho0 (fun k_ hk_ => (Kd.freshB (g := gb491) (o := .cells #[.string t486, .string t487, .slice Ao79 t488.length co79] 89 (0, 0)) (by (with_reducible repeat (first | refine zL ?_ _ | refine zN ?_ | refine zM ?_ _)); exact BK491.out) k_ hk_))) (zAE (by repeat (first | (with_reducible first | exact HB.out | apply zH | apply zF | apply zG | refine zI ?_ GE491.out) | exact HB.out)))); have n2_ := zA (yE (g := gb491) (o := .cells #[.string t486, .string t487, .slice Ao79 t488.length co79] 89 (0, 0)) (by (with_reducible repeat (first | refine zL ?_ _ | refine zN ?_ | refine zM ?_ _)); exact BK491.out) hb); have n3_ := zA (zAD (by repeat (first | (with_reducible first | exact HB.out | apply zH | apply zF | apply zG | refine zI ?_ GE491.out) | exact HB.out)) hb); clear HO490; clear BK491; clear HB; have HO490 := n0_; have HO500 := n1_; have BK491 := n2_; have HB := n3_; clear n0_ n1_ n2_ n3_; (try clear hb); (try clear ho0)) | ((with_reducible refine gate_dst (N := 30) rfl ?_); refine box_event ?hg (N := 30) ?hd (cs := #[.string (⟨#[]⟩ : ByteArray), .string (⟨#[]⟩ : ByteArray), .slice none 0 0]) (t := 89) ?hr ?_; (case hd => rfl); (case hg => rfl); (case hr => first | (go_simp; done) | (go_simp; rfl)); intro gb501 hg w84 hbox hb; have n0_ := zA (Kd.V_below (Kd.V_elderB (by (with_reducible repeat (first | apply Kd.V_alloc | apply Kd.V_drewN | apply Kd.V_drew)); exact HO490.out) gb501 (Nat.le_of_eq hg.symm)) hb); have n1_ := zA (Kd.V_below (Kd.V_elderB (by (with_reducible repeat (first | apply Kd.V_alloc | apply Kd.V_drewN | apply Kd.V_drew)); exact HO500.out) gb501 (Nat.le_of_eq hg.symm)) hb); have n2_ := zA (yE (g := gb491) (o := .cells #[.string t486, .string t487, .slice Ao79 t488.length co79] 89 (0, 0)) (by (with_reducible repeat (first | refine zL ?_ _ | refine zN ?_ | refine zM ?_ _)); exact BK491.out) hb); have n3_ := zA (zAD (by repeat (first | (with_reducible first | exact HB.out | apply zH | apply zF | apply zG | refine zI ?_ GE491.out) | exact HB.out)) hb); have n4_ := zA (hbox); have n5_ := zA ((by rw [hg]; exact (zAE (by repeat (first | (with_reducible first | exact HB.out | apply zH | apply zF | apply zG | refine zI ?_ GE491.out) | exact HB.out))) : w.heap.size ≤ gb501)); have n6_ := zA ((by rw [hg]; exact (zAE (by repeat (first | (with_reducible first | exact HB.out | apply zH | apply zF | apply zG | refine zI ?_ GE491.out) | exact HB.out))) : w.heap.size ≤ gb501)); have n7_ := zA ((by rw [hg]; exact zK (blk_lt (g := gb491) (o := .cells #[.string t486, .string t487, .slice Ao79 t488.length co79] 89 (0, 0)) (by (with_reducible repeat (first | refine zL ?_ _ | refine zN ?_ | refine zM ?_ _)); exact BK491.out)) : gb491 ≠ gb501)); have n8_ := zA ((by rw [hg]; exact Nat.ne_of_gt (blk_lt (g := gb491) (o := .cells #[.string t486, .string t487, .slice Ao79 t488.length co79] 89 (0, 0)) (by (with_reducible repeat (first | refine zL ?_ _ | refine zN ?_ | refine zM ?_ _)); exact BK491.out)) : gb501 ≠ gb491)); clear HO490; clear HO500; clear BK491; clear HB; have HO490 := n0_; have HO500 := n1_; have BK491 := n2_; have HB := n3_; have BK501 := n4_; have GW501 := n5_; have GE501 := n6_; have NB491_501 := n7_; have NB501_491 := n8_; clear n0_ n1_ n2_ n3_ n4_ n5_ n6_ n7_ n8_; clear hb hbox hg; have hnb85 := NB501_491.out; have hnc85 := NB491_501.out; have hcz86_0 : w84.cell? ⟨gb501, 0, none⟩ = some (.string (⟨#[]⟩ : ByteArray)) := (zP BK501.out 0).trans rfl; have hcz86_1 : w84.cell? ⟨gb501, 1, none⟩ = some (.string (⟨#[]⟩ : ByteArray)) := (zP BK501.out 1).trans rfl; have hcz86_2 : w84.cell? ⟨gb501, 2, none⟩ = some (.slice none 0 0) := (zP BK501.out 2).trans rfl; have hfz86_0 := zO BK501.out 0; have hfz86_1 := zO BK501.out 1; have hfz86_2 := zO BK501.out 2; obtain ⟨Ao87, co87, eo87⟩ := Kd.V_slice HO500.out; subst eo87) | ((with_reducible refine yB (f := 61) rfl ?_); refine goesL_ (some 198) rfl rfl Try.func61 (by kernel_rfl) rfl #[.agg #[.string t496, .string t497, .slice Ao87 t498.length co87]] rfl (by (try simp only [zAA, zAB, zAC]); first | done | rfl | (simp only [zZ, zY]; rfl)) ?_; (with_reducible refine (impl_BlockDigest.calls kj27 t496 t497 _ _ t498 t502 t503 _ ?side1 ?side2 A70.out).mono ?_); (case side1 => refine (Kd.V_reads' (e := 9) (base := w.heap.size) (ok := fun k_ => (k_ ≠ gb491 ∧ k_ ≠ gb501)) (n := t498.length) (c := co87) ?_).2.2; exact (by (with_reducible repeat (first | apply Kd.V_alloc | apply Kd.V_drewN | apply Kd.V_drew)); exact (Kd.V_mono (Kd.V_far (p := ⟨gb501, 2, none⟩) (Kd.V_far (p := ⟨gb501, 1, none⟩) (Kd.V_far (p := ⟨gb501, 0, none⟩) (Kd.V_mono HO500.out (fun k_ hk => (⟨hk, hk.2⟩ : _ ∧ k_ ≠ gb501))) (fun _ hk => hk.2) (.string t496)) (fun _ hk => hk.2) (.string t497)) (fun _ hk => hk.2) (.slice Ao87 t498.length co87)) (fun _ h_ => h_.1)))); (case side2 => exact (Kd.V_reads' HO500.out).2.1); rintro e w88 ⟨rfl, hb⟩; refine ⟨_, rfl, ?_⟩; have n0_ := zA (Kd.V_below (by (with_reducible repeat (first | apply Kd.V_alloc | apply Kd.V_drewN | apply Kd.V_drew)); exact (Kd.V_mono (Kd.V_far (p := ⟨gb501, 2, none⟩) (Kd.V_far (p := ⟨gb501, 1, none⟩) (Kd.V_far (p := ⟨gb501, 0, none⟩) (Kd.V_mono HO490.out (fun k_ hk => (⟨hk, hk.2⟩ : _ ∧ k_ ≠ gb501))) (fun _ hk => hk.2) (.string t496)) (fun _ hk => hk.2) (.string t497)) (fun _ hk => hk.2) (.slice Ao87 t498.length co87)) (fun _ h_ => h_.1))) hb); have n1_ := zA (Kd.V_below (by (with_reducible repeat (first | apply Kd.V_alloc | apply Kd.V_drewN | apply Kd.V_drew)); exact (Kd.V_mono (Kd.V_far (p := ⟨gb501, 2, none⟩) (Kd.V_far (p := ⟨gb501, 1, none⟩) (Kd.V_far (p := ⟨gb501, 0, none⟩) (Kd.V_mono HO500.out (fun k_ hk => (⟨hk, hk.2⟩ : _ ∧ k_ ≠ gb501))) (fun _ hk => hk.2) (.string t496)) (fun _ hk => hk.2) (.string t497)) (fun _ hk => hk.2) (.slice Ao87 t498.length co87)) (fun _ h_ => h_.1))) hb); have n2_ := zA (yE (g := gb491) (o := .cells #[.string t486, .string t487, .slice Ao79 t488.length co79] 89 (0, 0)) (by (with_reducible repeat (first | refine zL ?_ _ | refine zN ?_ | refine zM ?_ _)); refine blk_far ?_ NB491_501.out _; (with_reducible repeat (first | refine zL ?_ _ | refine zN ?_ | refine zM ?_ _)); refine blk_far ?_ NB491_501.out _; (with_reducible repeat (first | refine zL ?_ _ | refine zN ?_ | refine zM ?_ _)); refine blk_far ?_ NB491_501.out _; (with_reducible repeat (first | refine zL ?_ _ | refine zN ?_ | refine zM ?_ _)); exact BK491.out) hb); have n3_ := zA (yE (g := gb501) (o := .cells #[.string t496, .string t497, .slice Ao87 t498.length co87] 89 (0, 0)) (by (with_reducible repeat (first | refine zL ?_ _ | refine zN ?_ | refine zM ?_ _)); refine blk_put (cs := #[.string t496, .string t497, .slice none 0 0]) ?_ 2 _ rfl; (with_reducible repeat (first | refine zL ?_ _ | refine zN ?_ | refine zM ?_ _)); refine blk_put (cs := #[.string t496, .string (⟨#[]⟩ : ByteArray), .slice none 0 0]) ?_ 1 _ rfl; (with_reducible repeat (first | refine zL ?_ _ | refine zN ?_ | refine zM ?_ _)); refine blk_put (cs := #[.string (⟨#[]⟩ : ByteArray), .string (⟨#[]⟩ : ByteArray), .slice none 0 0]) ?_ 0 _ rfl; (with_reducible repeat (first | refine zL ?_ _ | refine zN ?_ | refine zM ?_ _)); exact BK501.out) hb); have n4_ := zA (zAD (by repeat (first | (with_reducible first | exact HB.out | apply zH | apply zF | apply zG | refine zI ?_ GE491.out | refine zI ?_ GE501.out) | exact HB.out)) hb); clear HO490; clear HO500; clear BK491; clear BK501; clear HB; have HO490 := n0_; have HO500 := n1_; have BK491 := n2_; have BK501 := n3_; have HB := n4_; clear n0_ n1_ n2_ n3_ n4_; (try clear hb); (try clear hk); have hcz89_0 : w88.cell? ⟨gb501, 0, none⟩ = some (.string t496) := (zP BK501.out 0).trans rfl; have hcz89_1 : w88.cell? ⟨gb501, 1, none⟩ = some (.string t497) := (zP BK501.out 1).trans rfl; have hcz89_2 : w88.cell? ⟨gb501, 2, none⟩ = some (.slice Ao87 t498.length co87) := (zP BK501.out 2).trans rfl; have hfz89_0 := zO BK501.out 0; have hfz89_1 := zO BK501.out 1; have hfz89_2 := zO BK501.out 2) | ((with_reducible refine yB (f := 68) rfl ?_); refine goesL_ (some 203) rfl rfl Try.func68 (by kernel_rfl) rfl #[.agg #[.string t496, .string t497, .slice Ao87 t498.length co87]] rfl (by (try simp only [zAA, zAB, zAC]); first | done | rfl | (simp only [zZ, zY]; rfl)) ?_; (with_reducible refine (spec_BlockDigest.calls kj27 t496 t497 _ _ t498 t504 t505 _ ?side1 ?side2 A71.out).mono ?_); (case side1 => repeat (first | exact (Kd.V_reads' HO500.out).2.2 | (with_reducible refine zT ?_ _) | (with_reducible refine zU ?_ _) | (with_reducible refine zV ?_))); (case side2 => exact (Kd.V_reads' HO500.out).2.1); rintro e w90 ⟨rfl, hb⟩; refine ⟨_, rfl, ?_⟩; have n0_ := zA (Kd.V_below (by (with_reducible repeat (first | apply Kd.V_alloc | apply Kd.V_drewN | apply Kd.V_drew)); exact HO490.out) hb); have n1_ := zA (Kd.V_below (by (with_reducible repeat (first | apply Kd.V_alloc | apply Kd.V_drewN | apply Kd.V_drew)); exact HO500.out) hb); have n2_ := zA (yE (g := gb491) (o := .cells #[.string t486, .string t487, .slice Ao79 t488.length co79] 89 (0, 0)) (by (with_reducible repeat (first | refine zL ?_ _ | refine zN ?_ | refine zM ?_ _)); exact BK491.out) hb); have n3_ := zA (yE (g := gb501) (o := .cells #[.string t496, .string t497, .slice Ao87 t498.length co87] 89 (0, 0)) (by (with_reducible repeat (first | refine zL ?_ _ | refine zN ?_ | refine zM ?_ _)); exact BK501.out) hb); have n4_ := zA (zAD (by repeat (first | (with_reducible first | exact HB.out | apply zH | apply zF | apply zG | refine zI ?_ GE491.out | refine zI ?_ GE501.out) | exact HB.out)) hb); clear HO490; clear HO500; clear BK491; clear BK501; clear HB; have HO490 := n0_; have HO500 := n1_; have BK491 := n2_; have BK501 := n3_; have HB := n4_; clear n0_ n1_ n2_ n3_ n4_; (try clear hb)) | ((with_reducible refine yB (f := 69) rfl ?_); refine goesL_ (some 207) rfl rfl Try.func69 (by kernel_rfl) rfl #[.slice A1 l1.length c1] rfl (by (try simp only [zAA, zAB, zAC]); first | done | rfl | (simp only [zZ, zY]; rfl)) ?_; (with_reducible refine (spec_DrawReadBlock.calls kj27 _ _ l1 t506 _ ?side1 ?side2 A72.out).mono ?_); (case side1 => repeat (first | exact (Kd.C_below HR1.out HB.out) | (with_reducible refine zT ?_ _) | (with_reducible refine zU ?_ _) | (with_reducible refine zV ?_))); (case side2 => exact HC1.out); rintro e w91 ⟨rfl, hb⟩; refine ⟨_, rfl, ?_⟩; have n0_ := zA (Kd.V_below (by (with_reducible repeat (first | apply Kd.V_alloc | apply Kd.V_drewN | apply Kd.V_drew)); exact HO490.out) hb); have n1_ := zA (Kd.V_below (by (with_reducible repeat (first | apply Kd.V_alloc | apply Kd.V_drewN | apply Kd.V_drew)); exact HO500.out) hb); have n2_ := zA (yE (g := gb491) (o := .cells #[.string t486, .string t487, .slice Ao79 t488.length co79] 89 (0, 0)) (by (with_reducible repeat (first | refine zL ?_ _ | refine zN ?_ | refine zM ?_ _)); exact BK491.out) hb); have n3_ := zA (yE (g := gb501) (o := .cells #[.string t496, .string t497, .slice Ao87 t498.length co87] 89 (0, 0)) (by (with_reducible repeat (first | refine zL ?_ _ | refine zN ?_ | refine zM ?_ _)); exact BK501.out) hb); have n4_ := zA (zAD (by repeat (first | (with_reducible first | exact HB.out | apply zH | apply zF | apply zG | refine zI ?_ GE491.out | refine zI ?_ GE501.out) | exact HB.out)) hb); clear HO490; clear HO500; clear BK491; clear BK501; clear HB; have HO490 := n0_; have HO500 := n1_; have BK491 := n2_; have BK501 := n3_; have HB := n4_; clear n0_ n1_ n2_ n3_ n4_; (try clear hb)) | ((with_reducible refine yB (f := 63) rfl ?_); refine goesL_ (some 210) rfl rfl Try.func63 (by kernel_rfl) rfl #[.string t506] rfl (by (try simp only [zAA, zAB, zAC]); first | done | rfl) ?_; (with_reducible refine (impl_ReadBlock.calls kj27 t506 t507 t508 t509 t512 _ A73.out).mono ?_); rintro e w92 ⟨v510, rfl, ho0, hb⟩; refine ⟨_, rfl, ?_⟩; have n0_ := zA (Kd.V_elder' (by (with_reducible repeat (first | apply Kd.V_alloc | apply Kd.V_drewN | apply Kd.V_drew)); exact HO490.out) (Kd.R_base ho0) hb); have n1_ := zA (Kd.V_elder' (by (with_reducible repeat (first | apply Kd.V_alloc | apply Kd.V_drewN | apply Kd.V_drew)); exact HO500.out) (Kd.R_base ho0) hb); have n2_ := zA (Kd.R_lower ho0 (zAE (by repeat (first | (with_reducible first | exact HB.out | apply zH | apply zF | apply zG | refine zI ?_ GE491.out | refine zI ?_ GE501.out) | exact HB.out)))); have n3_ := zA (yE (g := gb491) (o := .cells #[.string t486, .string t487, .slice Ao79 t488.length co79] 89 (0, 0)) (by (with_reducible repeat (first | refine zL ?_ _ | refine zN ?_ | refine zM ?_ _)); exact BK491.out) hb); have n4_ := zA (yE (g := gb501) (o := .cells #[.string t496, .string t497, .slice Ao87 t498.length co87] 89 (0, 0)) (by (with_reducible repeat (first | refine zL ?_ _ | refine zN ?_ | refine zM ?_ _)); exact BK501.out) hb); have n5_ := zA (zAD (by repeat (first | (with_reducible first | exact HB.out | apply zH | apply zF | apply zG | refine zI ?_ GE491.out | refine zI ?_ GE501.out) | exact HB.out)) hb); clear HO490; clear HO500; clear BK491; clear BK501; clear HB; have HO490 := n0_; have HO500 := n1_; have HO511 := n2_; have BK491 := n3_; have BK501 := n4_; have HB := n5_; clear n0_ n1_ n2_ n3_ n4_ n5_; (try clear hb); (try clear ho0)) | ((with_reducible refine gate_dst (N := 36) rfl ?_); refine box_event ?hg (N := 36) ?hd (cs := #[.string (⟨#[]⟩ : ByteArray), .string (⟨#[]⟩ : ByteArray), .slice none 0 0]) (t := 89) ?hr ?_; (case hd => rfl); (case hg => rfl); (case hr => first | (go_simp; done) | (go_simp; rfl)); intro gb513 hg w93 hbox hb; have n0_ := zA (Kd.V_below (Kd.V_elderB (by (with_reducible repeat (first | apply Kd.V_alloc | apply Kd.V_drewN | apply Kd.V_drew)); exact HO490.out) gb513 (Nat.le_of_eq hg.symm)) hb); have n1_ := zA (Kd.V_below (Kd.V_elderB (by (with_reducible repeat (first | apply Kd.V_alloc | apply Kd.V_drewN | apply Kd.V_drew)); exact HO500.out) gb513 (Nat.le_of_eq hg.symm)) hb); have n2_ := zA (Kd.R_below (by (with_reducible repeat first | apply zQ | apply zR | apply zS); exact HO511.out) hb); have n3_ := zA (yE (g := gb491) (o := .cells #[.string t486, .string t487, .slice Ao79 t488.length co79] 89 (0, 0)) (by (with_reducible repeat (first | refine zL ?_ _ | refine zN ?_ | refine zM ?_ _)); exact BK491.out) hb); have n4_ := zA (yE (g := gb501) (o := .cells #[.string t496, .string t497, .slice Ao87 t498.length co87] 89 (0, 0)) (by (with_reducible repeat (first | refine zL ?_ _ | refine zN ?_ | refine zM ?_ _)); exact BK501.out) hb); have n5_ := zA (zAD (by repeat (first | (with_reducible first | exact HB.out | apply zH | apply zF | apply zG | refine zI ?_ GE491.out | refine zI ?_ GE501.out) | exact HB.out)) hb); have n6_ := zA (hbox); have n7_ := zA ((by rw [hg]; exact (zAE (by repeat (first | (with_reducible first | exact HB.out | apply zH | apply zF | apply zG | refine zI ?_ GE491.out | refine zI ?_ GE501.out) | exact HB.out))) : w.heap.size ≤ gb513)); have n8_ := zA ((by rw [hg]; exact (zAE (by repeat (first | (with_reducible first | exact HB.out | apply zH | apply zF | apply zG | refine zI ?_ GE491.out | refine zI ?_ GE501.out) | exact HB.out))) : w.heap.size ≤ gb513)); have n9_ := zA ((by rw [hg]; exact zK (blk_lt (g := gb491) (o := .cells #[.string t486, .string t487, .slice Ao79 t488.length co79] 89 (0, 0)) (by (with_reducible repeat (first | refine zL ?_ _ | refine zN ?_ | refine zM ?_ _)); exact BK491.out)) : gb491 ≠ gb513)); have n10_ := zA ((by rw [hg]; exact Nat.ne_of_gt (blk_lt (g := gb491) (o := .cells #[.string t486, .string t487, .slice Ao79 t488.length co79] 89 (0, 0)) (by (with_reducible repeat (first | refine zL ?_ _ | refine zN ?_ | refine zM ?_ _)); exact BK491.out)) : gb513 ≠ gb491)); have n11_ := zA ((by rw [hg]; exact zK (blk_lt (g := gb501) (o := .cells #[.string t496, .string t497, .slice Ao87 t498.length co87] 89 (0, 0)) (by (with_reducible repeat (first | refine zL ?_ _ | refine zN ?_ | refine zM ?_ _)); exact BK501.out)) : gb501 ≠ gb513)); have n12_ := zA ((by rw [hg]; exact Nat.ne_of_gt (blk_lt (g := gb501) (o := .cells #[.string t496, .string t497, .slice Ao87 t498.length co87] 89 (0, 0)) (by (with_reducible repeat (first | refine zL ?_ _ | refine zN ?_ | refine zM ?_ _)); exact BK501.out)) : gb513 ≠ gb501)); clear HO490; clear HO500; clear HO511; clear BK491; clear BK501; clear HB; have HO490 := n0_; have HO500 := n1_; have HO511 := n2_; have BK491 := n3_; have BK501 := n4_; have HB := n5_; have BK513 := n6_; have GW513 := n7_; have GE513 := n8_; have NB491_513 := n9_; have NB513_491 := n10_; have NB501_513 := n11_; have NB513_501 := n12_; clear n0_ n1_ n2_ n3_ n4_ n5_ n6_ n7_ n8_ n9_ n10_ n11_ n12_; clear hb hbox hg; have hnb94 := NB513_491.out; have hnc94 := NB491_513.out; have hnb95 := NB513_501.out; have hnc95 := NB501_513.out; have hcz96_0 : w93.cell? ⟨gb513, 0, none⟩ = some (.string (⟨#[]⟩ : ByteArray)) := (zP BK513.out 0).trans rfl; have hcz96_1 : w93.cell? ⟨gb513, 1, none⟩ = some (.string (⟨#[]⟩ : ByteArray)) := (zP BK513.out 1).trans rfl; have hcz96_2 : w93.cell? ⟨gb513, 2, none⟩ = some (.slice none 0 0) := (zP BK513.out 2).trans rfl; have hfz96_0 := zO BK513.out 0; have hfz96_1 := zO BK513.out 1; have hfz96_2 := zO BK513.out 2; obtain ⟨Ao97, co97, eo97⟩ := Kd.R_slice HO511.out; subst eo97) | ((with_reducible refine yB (f := 70) rfl ?_); refine goesL_ (some 215) rfl rfl Try.func70 (by kernel_rfl) rfl #[.string t506] rfl (by (try simp only [zAA, zAB, zAC]); first | done | rfl) ?_; (with_reducible refine (spec_ReadBlock.calls kj27 t506 t514 t515 t516 t519 _ A74.out).mono ?_); rintro e w98 ⟨v517, rfl, ho0, hb⟩; refine ⟨_, rfl, ?_⟩; have n0_ := zA (Kd.V_elder' (by (with_reducible repeat (first | apply Kd.V_alloc | apply Kd.V_drewN | apply Kd.V_drew)); exact (Kd.V_mono (Kd.V_far (p := ⟨gb513, 2, none⟩) (Kd.V_far (p := ⟨gb513, 1, none⟩) (Kd.V_far (p := ⟨gb513, 0, none⟩) (Kd.V_mono HO490.out (fun k_ hk => (⟨hk, hk.2⟩ : _ ∧ k_ ≠ gb513))) (fun _ hk => hk.2) (.string t507)) (fun _ hk => hk.2) (.string t508)) (fun _ hk => hk.2) (.slice Ao97 t509.length co97)) (fun _ h_ => h_.1))) (Kd.R_base ho0) hb); have n1_ := zA (Kd.V_elder' (by (with_reducible repeat (first | apply Kd.V_alloc | apply Kd.V_drewN | apply Kd.V_drew)); exact (Kd.V_mono (Kd.V_far (p := ⟨gb513, 2, none⟩) (Kd.V_far (p := ⟨gb513, 1, none⟩) (Kd.V_far (p := ⟨gb513, 0, none⟩) (Kd.V_mono HO500.out (fun k_ hk => (⟨hk, hk.2⟩ : _ ∧ k_ ≠ gb513))) (fun _ hk => hk.2) (.string t507)) (fun _ hk => hk.2) (.string t508)) (fun _ hk => hk.2) (.slice Ao97 t509.length co97)) (fun _ h_ => h_.1))) (Kd.R_base ho0) hb); have n2_ := zA (yJ (by (with_reducible repeat first | apply zQ | apply zR | apply zS); exact (yC (Kd.R_far (p := ⟨gb513, 2, none⟩) (Kd.R_far (p := ⟨gb513, 1, none⟩) (Kd.R_far (p := ⟨gb513, 0, none⟩) (Kd.R_types HO511.out BK513.out (by decide)) (fun _ hk => hk.2) (.string t507)) (fun _ hk => hk.2) (.string t508)) (fun _ hk => hk.2) (.slice Ao97 t509.length co97)) (fun _ h_ => h_.1))) (Kd.R_base ho0) hb); have n3_ := zA (Kd.R_lower (yK ho0 (Kd.R_lt (by (with_reducible repeat first | apply zQ | apply zR | apply zS); exact (yC (Kd.R_far (p := ⟨gb513, 2, none⟩) (Kd.R_far (p := ⟨gb513, 1, none⟩) (Kd.R_far (p := ⟨gb513, 0, none⟩) (Kd.R_types HO511.out BK513.out (by decide)) (fun _ hk => hk.2) (.string t507)) (fun _ hk => hk.2) (.string t508)) (fun _ hk => hk.2) (.slice Ao97 t509.length co97)) (fun _ h_ => h_.1))))) (zAE (by repeat (first | (with_reducible first | exact HB.out | apply zH | apply zF | apply zG | refine zI ?_ GE491.out | refine zI ?_ GE501.out | refine zI ?_ GE513.out) | exact HB.out)))); have n4_ := zA (yE (g := gb491) (o := .cells #[.string t486, .string t487, .slice Ao79 t488.length co79] 89 (0, 0)) (by (with_reducible repeat (first | refine zL ?_ _ | refine zN ?_ | refine zM ?_ _)); refine blk_far ?_ NB491_513.out _; (with_reducible repeat (first | refine zL ?_ _ | refine zN ?_ | refine zM ?_ _)); refine blk_far ?_ NB491_513.out _; (with_reducible repeat (first | refine zL ?_ _ | refine zN ?_ | refine zM ?_ _)); refine blk_far ?_ NB491_513.out _; (with_reducible repeat (first | refine zL ?_ _ | refine zN ?_ | refine zM ?_ _)); exact BK491.out) hb); have n5_ := zA (yE (g := gb501) (o := .cells #[.string t496, .string t497, .slice Ao87 t498.length co87] 89 (0, 0)) (by (with_reducible repeat (first | refine zL ?_ _ | refine zN ?_ | refine zM ?_ _)); refine blk_far ?_ NB501_513.out _; (with_reducible repeat (first | refine zL ?_ _ | refine zN ?_ | refine zM ?_ _)); refine blk_far ?_ NB501_513.out _; (with_reducible repeat (first | refine zL ?_ _ | refine zN ?_ | refine zM ?_ _)); refine blk_far ?_ NB501_513.out _; (with_reducible repeat (first | refine zL ?_ _ | refine zN ?_ | refine zM ?_ _)); exact BK501.out) hb); have n6_ := zA (yE (g := gb513) (o := .cells #[.string t507, .string t508, .slice Ao97 t509.length co97] 89 (0, 0)) (by (with_reducible repeat (first | refine zL ?_ _ | refine zN ?_ | refine zM ?_ _)); refine blk_put (cs := #[.string t507, .string t508, .slice none 0 0]) ?_ 2 _ rfl; (with_reducible repeat (first | refine zL ?_ _ | refine zN ?_ | refine zM ?_ _)); refine blk_put (cs := #[.string t507, .string (⟨#[]⟩ : ByteArray), .slice none 0 0]) ?_ 1 _ rfl; (with_reducible repeat (first | refine zL ?_ _ | refine zN ?_ | refine zM ?_ _)); refine blk_put (cs := #[.string (⟨#[]⟩ : ByteArray), .string (⟨#[]⟩ : ByteArray), .slice none 0 0]) ?_ 0 _ rfl; (with_reducible repeat (first | refine zL ?_ _ | refine zN ?_ | refine zM ?_ _)); exact BK513.out) hb); have n7_ := zA (zAD (by repeat (first | (with_reducible first | exact HB.out | apply zH | apply zF | apply zG | refine zI ?_ GE491.out | refine zI ?_ GE501.out | refine zI ?_ GE513.out) | exact HB.out)) hb); clear HO490; clear HO500; clear HO511; clear BK491; clear BK501; clear BK513; clear HB; have HO490 := n0_; have HO500 := n1_; have HO511 := n2_; have HO518 := n3_; have BK491 := n4_; have BK501 := n5_; have BK513 := n6_; have HB := n7_; clear n0_ n1_ n2_ n3_ n4_ n5_ n6_ n7_; (try clear hb); (try clear hk); (try clear ho0)) | ((with_reducible refine gate_dst (N := 38) rfl ?_); refine box_event ?hg (N := 38) ?hd (cs := #[.string (⟨#[]⟩ : ByteArray), .string (⟨#[]⟩ : ByteArray), .slice none 0 0]) (t := 89) ?hr ?_; (case hd => rfl); (case hg => rfl); (case hr => first | (go_simp; done) | (go_simp; rfl)); intro gb520 hg w99 hbox hb; have n0_ := zA (Kd.V_below (Kd.V_elderB (by (with_reducible repeat (first | apply Kd.V_alloc | apply Kd.V_drewN | apply Kd.V_drew)); exact HO490.out) gb520 (Nat.le_of_eq hg.symm)) hb); have n1_ := zA (Kd.V_below (Kd.V_elderB (by (with_reducible repeat (first | apply Kd.V_alloc | apply Kd.V_drewN | apply Kd.V_drew)); exact HO500.out) gb520 (Nat.le_of_eq hg.symm)) hb); have n2_ := zA (Kd.R_below (by (with_reducible repeat first | apply zQ | apply zR | apply zS); exact HO511.out) hb); have n3_ := zA (Kd.R_below (by (with_reducible repeat first | apply zQ | apply zR | apply zS); exact HO518.out) hb); have n4_ := zA (yE (g := gb491) (o := .cells #[.string t486, .string t487, .slice Ao79 t488.length co79] 89 (0, 0)) (by (with_reducible repeat (first | refine zL ?_ _ | refine zN ?_ | refine zM ?_ _)); exact BK491.out) hb); have n5_ := zA (yE (g := gb501) (o := .cells #[.string t496, .string t497, .slice Ao87 t498.length co87] 89 (0, 0)) (by (with_reducible repeat (first | refine zL ?_ _ | refine zN ?_ | refine zM ?_ _)); exact BK501.out) hb); have n6_ := zA (yE (g := gb513) (o := .cells #[.string t507, .string t508, .slice Ao97 t509.length co97] 89 (0, 0)) (by (with_reducible repeat (first | refine zL ?_ _ | refine zN ?_ | refine zM ?_ _)); exact BK513.out) hb); have n7_ := zA (zAD (by repeat (first | (with_reducible first | exact HB.out | apply zH | apply zF | apply zG | refine zI ?_ GE491.out | refine zI ?_ GE501.out | refine zI ?_ GE513.out) | exact HB.out)) hb); have n8_ := zA (hbox); have n9_ := zA ((by rw [hg]; exact (zAE (by repeat (first | (with_reducible first | exact HB.out | apply zH | apply zF | apply zG | refine zI ?_ GE491.out | refine zI ?_ GE501.out | refine zI ?_ GE513.out) | exact HB.out))) : w.heap.size ≤ gb520)); have n10_ := zA ((by rw [hg]; exact (zAE (by repeat (first | (with_reducible first | exact HB.out | apply zH | apply zF | apply zG | refine zI ?_ GE491.out | refine zI ?_ GE501.out | refine zI ?_ GE513.out) | exact HB.out))) : w.heap.size ≤ gb520)); have n11_ := zA ((by rw [hg]; exact zK (blk_lt (g := gb491) (o := .cells #[.string t486, .string t487, .slice Ao79 t488.length co79] 89 (0, 0)) (by (with_reducible repeat (first | refine zL ?_ _ | refine zN ?_ | refine zM ?_ _)); exact BK491.out)) : gb491 ≠ gb520)); have n12_ := zA ((by rw [hg]; exact Nat.ne_of_gt (blk_lt (g := gb491) (o := .cells #[.string t486, .string t487, .slice Ao79 t488.length co79] 89 (0, 0)) (by (with_reducible repeat (first | refine zL ?_ _ | refine zN ?_ | refine zM ?_ _)); exact BK491.out)) : gb520 ≠ gb491)); have n13_ := zA ((by rw [hg]; exact zK (blk_lt (g := gb501) (o := .cells #[.string t496, .string t497, .slice Ao87 t498.length co87] 89 (0, 0)) (by (with_reducible repeat (first | refine zL ?_ _ | refine zN ?_ | refine zM ?_ _)); exact BK501.out)) : gb501 ≠ gb520)); have n14_ := zA ((by rw [hg]; exact Nat.ne_of_gt (blk_lt (g := gb501) (o := .cells #[.string t496, .string t497, .slice Ao87 t498.length co87] 89 (0, 0)) (by (with_reducible repeat (first | refine zL ?_ _ | refine zN ?_ | refine zM ?_ _)); exact BK501.out)) : gb520 ≠ gb501)); have n15_ := zA ((by rw [hg]; exact zK (blk_lt (g := gb513) (o := .cells #[.string t507, .string t508, .slice Ao97 t509.length co97] 89 (0, 0)) (by (with_reducible repeat (first | refine zL ?_ _ | refine zN ?_ | refine zM ?_ _)); exact BK513.out)) : gb513 ≠ gb520)); have n16_ := zA ((by rw [hg]; exact Nat.ne_of_gt (blk_lt (g := gb513) (o := .cells #[.string t507, .string t508, .slice Ao97 t509.length co97] 89 (0, 0)) (by (with_reducible repeat (first | refine zL ?_ _ | refine zN ?_ | refine zM ?_ _)); exact BK513.out)) : gb520 ≠ gb513)); clear HO490; clear HO500; clear HO511; clear HO518; clear BK491; clear BK501; clear BK513; clear HB; have HO490 := n0_; have HO500 := n1_; have HO511 := n2_; have HO518 := n3_; have BK491 := n4_; have BK501 := n5_; have BK513 := n6_; have HB := n7_; have BK520 := n8_; have GW520 := n9_; have GE520 := n10_; have NB491_520 := n11_; have NB520_491 := n12_; have NB501_520 := n13_; have NB520_501 := n14_; have NB513_520 := n15_; have NB520_513 := n16_; clear n0_ n1_ n2_ n3_ n4_ n5_ n6_ n7_ n8_ n9_ n10_ n11_ n12_ n13_ n14_ n15_ n16_; clear hb hbox hg; have hnb100 := NB520_491.out; have hnc100 := NB491_520.out; have hnb101 := NB520_501.out; have hnc101 := NB501_520.out; have hnb102 := NB520_513.out; have hnc102 := NB513_520.out; have hcz103_0 : w99.cell? ⟨gb520, 0, none⟩ = some (.string (⟨#[]⟩ : ByteArray)) := (zP BK520.out 0).trans rfl; have hcz103_1 : w99.cell? ⟨gb520, 1, none⟩ = some (.string (⟨#[]⟩ : ByteArray)) := (zP BK520.out 1).trans rfl; have hcz103_2 : w99.cell? ⟨gb520, 2, none⟩ = some (.slice none 0 0) := (zP BK520.out 2).trans rfl; have hfz103_0 := zO BK520.out 0; have hfz103_1 := zO BK520.out 1; have hfz103_2 := zO BK520.out 2; obtain ⟨Ao104, co104, eo104⟩ := Kd.R_slice HO518.out; subst eo104))
       (try simp only [Act.put, zC, zD, zE]); go_cut [252] (fun v252 wc => ∃ (kq : Nat) (x252_74 : Bool), v252 = .bool x252_74 ∧ Aside0 (laws_FnChain.j2 kq t506 t512 x252_74 t507 t508 t509 = some r) ∧ Aside0 (kq ≤ kj27) ∧ Aside0 (Kd.V Kd.string 9 wc w.heap.size (fun k_ => some k_ ≠ ((.slice Ao97 t509.length co97) : Value).ownBlock ∧ some k_ ≠ ((.slice Ao104 t516.length co104) : Value).ownBlock ∧ k_ ≠ gb491 ∧ k_ ≠ gb501 ∧ k_ ≠ gb513 ∧ k_ ≠ gb520) (.slice Ao79 t488.length co79) t488) ∧ Aside0 (Kd.V Kd.string 9 wc w.heap.size (fun k_ => some k_ ≠ ((.slice Ao97 t509.length co97) : Value).ownBlock ∧ some k_ ≠ ((.slice Ao104 t516.length co104) : Value).ownBlock ∧ k_ ≠ gb491 ∧ k_ ≠ gb501 ∧ k_ ≠ gb513 ∧ k_ ≠ gb520) (.slice Ao87 t498.length co87) t498) ∧ Aside0 (Kd.R Kd.string 9 wc w.heap.size (fun k_ => some k_ ≠ ((.slice Ao104 t516.length co104) : Value).ownBlock) (.slice Ao97 t509.length co97) t509) ∧ Aside0 (Kd.R Kd.string 9 wc w.heap.size (fun k_ => some k_ ≠ ((.slice Ao97 t509.length co97) : Value).ownBlock) (.slice Ao104 t516.length co104) t516) ∧ Aside0 (wc.heap[gb491]? = some (.cells #[.string t486, .string t487, (.slice Ao79 t488.length co79)] 89 (0, 0))) ∧ Aside0 (wc.heap[gb501]? = some (.cells #[.string t496, .string t497, (.slice Ao87 t498.length co87)] 89 (0, 0))) ∧ Aside0 (wc.heap[gb513]? = some (.cells #[.string t507, .string t508, (.slice Ao97 t509.length co97)] 89 (0, 0))) ∧ Aside0 (wc.heap[gb520]? = some (.cells #[.string t514, .string t515, (.slice Ao104 t516.length co104)] 89 (0, 0))) ∧ Aside0 (Below w.heap.size w wc))
       case first =>
        have H := HC75.out; clear HC75
        by_cases c105 : (t493 != t495) = true
        ·rw [if_pos c105] at H
         have c105b0 : (t493 != t495) = true := c105; (try (have c105b1 : decide (t493 = t495) = false := by simpa using c105)); (try (have c105b2 : (t493 == t495) = false := by simpa using c105)); (try (have c105b3 : ¬ (t493 = t495) := by simpa using c105)); clear c105; (first | rw [c105b0] | (simp only [i64_w, i32_w]; rw [c105b0]) | skip)
         as_aux_lemma =>
          exfalso; revert H; generalize kj27 = q_; intro H; cases q_ with
          | zero => exact absurd H (by simp [laws_FnChain.j2])
          | succ q_ => simp only [laws_FnChain.j2] at H; exact absurd ((Option.some.inj (show some false = some _ from H)).trans hr_.out) (by decide)
        ·rw [if_neg c105] at H
         have c105b0 : (t493 != t495) = false := by simpa using c105
         (try (have c105b1 : decide (t493 = t495) = true := by simpa using c105)); (try (have c105b2 : (t493 == t495) = true := by simpa using c105)); clear c105; (first | rw [c105b0] | (simp only [i64_w, i32_w]; rw [c105b0]) | skip)
         by_cases c106 : t492.toList = t494.toList
         ·rw [if_pos c106] at H
          have c106b0 : (t492.toList == t494.toList) = true := beq_iff_eq.mpr c106; have c106b1 : (t492.toList != t494.toList) = false := bne_eq_false_iff_eq.mpr c106; clear c106
          by_cases c107 : (t503 != t505) = true
          ·rw [if_pos c107] at H
           have c107b0 : (t503 != t505) = true := c107; (try (have c107b1 : decide (t503 = t505) = false := by simpa using c107)); (try (have c107b2 : (t503 == t505) = false := by simpa using c107)); (try (have c107b3 : ¬ (t503 = t505) := by simpa using c107)); clear c107
           as_aux_lemma =>
            exfalso; revert H; generalize kj27 = q_; intro H; cases q_ with
            | zero => exact absurd H (by simp [laws_FnChain.j2])
            | succ q_ => simp only [laws_FnChain.j2] at H; exact absurd ((Option.some.inj (show some false = some _ from H)).trans hr_.out) (by decide)
          ·rw [if_neg c107] at H
           have c107b0 : (t503 != t505) = false := by simpa using c107
           (try (have c107b1 : decide (t503 = t505) = true := by simpa using c107)); (try (have c107b2 : (t503 == t505) = true := by simpa using c107)); clear c107
           by_cases c108 : t502.toList = t504.toList
           ·rw [if_pos c108] at H
            have c108b0 : (t502.toList == t504.toList) = true := beq_iff_eq.mpr c108; have c108b1 : (t502.toList != t504.toList) = false := bne_eq_false_iff_eq.mpr c108; clear c108
            by_cases c109 : (t512 != t519) = true
            ·rw [if_pos c109] at H
             have c109b0 : (t512 != t519) = true := c109; (try (have c109b1 : decide (t512 = t519) = false := by simpa using c109)); (try (have c109b2 : (t512 == t519) = false := by simpa using c109)); (try (have c109b3 : ¬ (t512 = t519) := by simpa using c109)); clear c109
             as_aux_lemma =>
              exfalso; revert H; generalize kj27 = q_; intro H; cases q_ with
              | zero => exact absurd H (by simp [laws_FnChain.j2])
              | succ q_ => simp only [laws_FnChain.j2] at H; exact absurd ((Option.some.inj (show some false = some _ from H)).trans hr_.out) (by decide)
            ·rw [if_neg c109] at H
             have c109b0 : (t512 != t519) = false := by simpa using c109
             (try (have c109b1 : decide (t512 = t519) = true := by simpa using c109)); (try (have c109b2 : (t512 == t519) = true := by simpa using c109)); clear c109; replace H := zAF H; obtain ⟨t521, A1100, H⟩ := H; replace H : (if t521 = true then ((impl_GoodBlock.f kj27 t486 t487 t488).bind fun t522 => (laws_FnChain.j2 kj27 t506 t512 (t522 != t493) t507 t508 t509)) else (laws_FnChain.j2 kj27 t506 t512 true t507 t508 t509)) = some r := H; have A110 := zA A1100; clear A1100
             by_cases c111 : t521 = true
             ·subst c111
              have H1 : ((impl_GoodBlock.f kj27 t486 t487 t488).bind fun t522 => (laws_FnChain.j2 kj27 t506 t512 (t522 != t493) t507 t508 t509)) = some r := by rw [if_pos rfl] at H; exact H
              clear H; have H := H1; clear H1; replace H := zAF H; obtain ⟨t522, A1120, H⟩ := H; replace H : (laws_FnChain.j2 kj27 t506 t512 (t522 != t493) t507 t508 t509) = some r := H; have A112 := zA A1120; clear A1120
              as_aux_lemma =>
               have H' := zA H; clear H; have hnb113 := NB513_491.out; have hnc113 := NB491_513.out; have hnb114 := NB513_501.out; have hnc114 := NB501_513.out; have hnb115 := NB513_520.out; have hnc115 := NB520_513.out; have hcz116_0 : w99.cell? ⟨gb513, 0, none⟩ = some (.string t507) := (zP BK513.out 0).trans rfl; have hcz116_1 : w99.cell? ⟨gb513, 1, none⟩ = some (.string t508) := (zP BK513.out 1).trans rfl; have hcz116_2 : w99.cell? ⟨gb513, 2, none⟩ = some (.slice Ao97 t509.length co97) := (zP BK513.out 2).trans rfl; have hfz116_0 := zO BK513.out 0; have hfz116_1 := zO BK513.out 1; have hfz116_2 := zO BK513.out 2; have hnb117 := NB520_491.out; have hnc117 := NB491_520.out; have hnb118 := NB520_501.out; have hnc118 := NB501_520.out; have hcz119_0 : w99.cell? ⟨gb520, 0, none⟩ = some (.string (⟨#[]⟩ : ByteArray)) := (zP BK520.out 0).trans rfl; have hcz119_1 : w99.cell? ⟨gb520, 1, none⟩ = some (.string (⟨#[]⟩ : ByteArray)) := (zP BK520.out 1).trans rfl; have hcz119_2 : w99.cell? ⟨gb520, 2, none⟩ = some (.slice none 0 0) := (zP BK520.out 2).trans rfl; have hfz119_0 := zO BK520.out 0; have hfz119_1 := zO BK520.out 1; have hfz119_2 := zO BK520.out 2; go_wp2_with (first | (go_at_call 64; (with_reducible refine (laws_sameBlock.calls kj27 t507 t508 _ _ t509 t514 t515 _ _ t516 true _ ?side1 ?side2 ?side3 ?side4 A110.out).mono ?_); (case side1 => refine (yD (e := 9) (base := w.heap.size) (ok := fun k_ => (True ∧ some k_ ≠ (.slice Ao104 t516.length co104 : Value).ownBlock)) (n := t509.length) (c := co97) ?_).2.2; exact (by (with_reducible repeat first | apply zQ | apply zR | apply zS); exact (yC (Kd.R_far (p := ⟨gb520, 2, none⟩) (Kd.R_far (p := ⟨gb520, 1, none⟩) (Kd.R_far (p := ⟨gb520, 0, none⟩) (Kd.R_types HO511.out BK520.out (by decide)) (fun _ hk => hk.2) (.string t514)) (fun _ hk => hk.2) (.string t515)) (fun _ hk => hk.2) (.slice Ao104 t516.length co104)) (fun _ h_ => h_.1)))); (case side2 => exact (yD HO511.out).2.1); (case side3 => refine (yD (e := 9) (base := w.heap.size) (ok := fun k_ => (True ∧ some k_ ≠ (.slice Ao97 t509.length co97 : Value).ownBlock)) (n := t516.length) (c := co104) ?_).2.2; exact (by (with_reducible repeat first | apply zQ | apply zR | apply zS); exact (yC (Kd.R_far (p := ⟨gb520, 2, none⟩) (Kd.R_far (p := ⟨gb520, 1, none⟩) (Kd.R_far (p := ⟨gb520, 0, none⟩) (Kd.R_types HO518.out BK520.out (by decide)) (fun _ hk => hk.2) (.string t514)) (fun _ hk => hk.2) (.string t515)) (fun _ hk => hk.2) (.slice Ao104 t516.length co104)) (fun _ h_ => h_.1)))); (case side4 => exact (yD HO518.out).2.1); rintro e w120 ⟨rfl, hb⟩; have n0_ := zA (Kd.V_below (by (with_reducible repeat (first | apply Kd.V_alloc | apply Kd.V_drewN | apply Kd.V_drew)); exact (Kd.V_mono (Kd.V_far (p := ⟨gb520, 2, none⟩) (Kd.V_far (p := ⟨gb520, 1, none⟩) (Kd.V_far (p := ⟨gb520, 0, none⟩) (Kd.V_mono HO490.out (fun k_ hk => (⟨hk, hk.2⟩ : _ ∧ k_ ≠ gb520))) (fun _ hk => hk.2) (.string t514)) (fun _ hk => hk.2) (.string t515)) (fun _ hk => hk.2) (.slice Ao104 t516.length co104)) (fun _ h_ => h_.1))) hb); have n1_ := zA (Kd.V_below (by (with_reducible repeat (first | apply Kd.V_alloc | apply Kd.V_drewN | apply Kd.V_drew)); exact (Kd.V_mono (Kd.V_far (p := ⟨gb520, 2, none⟩) (Kd.V_far (p := ⟨gb520, 1, none⟩) (Kd.V_far (p := ⟨gb520, 0, none⟩) (Kd.V_mono HO500.out (fun k_ hk => (⟨hk, hk.2⟩ : _ ∧ k_ ≠ gb520))) (fun _ hk => hk.2) (.string t514)) (fun _ hk => hk.2) (.string t515)) (fun _ hk => hk.2) (.slice Ao104 t516.length co104)) (fun _ h_ => h_.1))) hb); have n2_ := zA (Kd.R_below (by (with_reducible repeat first | apply zQ | apply zR | apply zS); exact (yC (Kd.R_far (p := ⟨gb520, 2, none⟩) (Kd.R_far (p := ⟨gb520, 1, none⟩) (Kd.R_far (p := ⟨gb520, 0, none⟩) (Kd.R_types HO511.out BK520.out (by decide)) (fun _ hk => hk.2) (.string t514)) (fun _ hk => hk.2) (.string t515)) (fun _ hk => hk.2) (.slice Ao104 t516.length co104)) (fun _ h_ => h_.1))) hb); have n3_ := zA (Kd.R_below (by (with_reducible repeat first | apply zQ | apply zR | apply zS); exact (yC (Kd.R_far (p := ⟨gb520, 2, none⟩) (Kd.R_far (p := ⟨gb520, 1, none⟩) (Kd.R_far (p := ⟨gb520, 0, none⟩) (Kd.R_types HO518.out BK520.out (by decide)) (fun _ hk => hk.2) (.string t514)) (fun _ hk => hk.2) (.string t515)) (fun _ hk => hk.2) (.slice Ao104 t516.length co104)) (fun _ h_ => h_.1))) hb); have n4_ := zA (yE (g := gb491) (o := .cells #[.string t486, .string t487, .slice Ao79 t488.length co79] 89 (0, 0)) (by (with_reducible repeat (first | refine zL ?_ _ | refine zN ?_ | refine zM ?_ _)); refine blk_far ?_ NB491_520.out _; (with_reducible repeat (first | refine zL ?_ _ | refine zN ?_ | refine zM ?_ _)); refine blk_far ?_ NB491_520.out _; (with_reducible repeat (first | refine zL ?_ _ | refine zN ?_ | refine zM ?_ _)); refine blk_far ?_ NB491_520.out _; (with_reducible repeat (first | refine zL ?_ _ | refine zN ?_ | refine zM ?_ _)); exact BK491.out) hb); have n5_ := zA (yE (g := gb501) (o := .cells #[.string t496, .string t497, .slice Ao87 t498.length co87] 89 (0, 0)) (by (with_reducible repeat (first | refine zL ?_ _ | refine zN ?_ | refine zM ?_ _)); refine blk_far ?_ NB501_520.out _; (with_reducible repeat (first | refine zL ?_ _ | refine zN ?_ | refine zM ?_ _)); refine blk_far ?_ NB501_520.out _; (with_reducible repeat (first | refine zL ?_ _ | refine zN ?_ | refine zM ?_ _)); refine blk_far ?_ NB501_520.out _; (with_reducible repeat (first | refine zL ?_ _ | refine zN ?_ | refine zM ?_ _)); exact BK501.out) hb); have n6_ := zA (yE (g := gb513) (o := .cells #[.string t507, .string t508, .slice Ao97 t509.length co97] 89 (0, 0)) (by (with_reducible repeat (first | refine zL ?_ _ | refine zN ?_ | refine zM ?_ _)); refine blk_far ?_ NB513_520.out _; (with_reducible repeat (first | refine zL ?_ _ | refine zN ?_ | refine zM ?_ _)); refine blk_far ?_ NB513_520.out _; (with_reducible repeat (first | refine zL ?_ _ | refine zN ?_ | refine zM ?_ _)); refine blk_far ?_ NB513_520.out _; (with_reducible repeat (first | refine zL ?_ _ | refine zN ?_ | refine zM ?_ _)); exact BK513.out) hb); have n7_ := zA (yE (g := gb520) (o := .cells #[.string t514, .string t515, .slice Ao104 t516.length co104] 89 (0, 0)) (by (with_reducible repeat (first | refine zL ?_ _ | refine zN ?_ | refine zM ?_ _)); refine blk_put (cs := #[.string t514, .string t515, .slice none 0 0]) ?_ 2 _ rfl; (with_reducible repeat (first | refine zL ?_ _ | refine zN ?_ | refine zM ?_ _)); refine blk_put (cs := #[.string t514, .string (⟨#[]⟩ : ByteArray), .slice none 0 0]) ?_ 1 _ rfl; (with_reducible repeat (first | refine zL ?_ _ | refine zN ?_ | refine zM ?_ _)); refine blk_put (cs := #[.string (⟨#[]⟩ : ByteArray), .string (⟨#[]⟩ : ByteArray), .slice none 0 0]) ?_ 0 _ rfl; (with_reducible repeat (first | refine zL ?_ _ | refine zN ?_ | refine zM ?_ _)); exact BK520.out) hb); have n8_ := zA (zAD (by repeat (first | (with_reducible first | exact HB.out | apply zH | apply zF | apply zG | refine zI ?_ GE491.out | refine zI ?_ GE501.out | refine zI ?_ GE513.out | refine zI ?_ GE520.out) | exact HB.out)) hb); clear HO490; clear HO500; clear HO511; clear HO518; clear BK491; clear BK501; clear BK513; clear BK520; clear HB; have HO490 := n0_; have HO500 := n1_; have HO511 := n2_; have HO518 := n3_; have BK491 := n4_; have BK501 := n5_; have BK513 := n6_; have BK520 := n7_; have HB := n8_; clear n0_ n1_ n2_ n3_ n4_ n5_ n6_ n7_ n8_; (try clear hb); (try clear hk); have hnb121 := NB491_501.out; have hnc121 := NB501_491.out; have hcz122_0 : w120.cell? ⟨gb491, 0, none⟩ = some (.string t486) := (zP BK491.out 0).trans rfl; have hcz122_1 : w120.cell? ⟨gb491, 1, none⟩ = some (.string t487) := (zP BK491.out 1).trans rfl; have hcz122_2 : w120.cell? ⟨gb491, 2, none⟩ = some (.slice Ao79 t488.length co79) := (zP BK491.out 2).trans rfl; have hfz122_0 := zO BK491.out 0; have hfz122_1 := zO BK491.out 1; have hfz122_2 := zO BK491.out 2) | (go_at_call 71; (with_reducible refine (impl_GoodBlock.calls kj27 t486 t487 _ _ t488 t522 _ ?side1 ?side2 A112.out).mono ?_); (case side1 => repeat (first | exact (Kd.V_reads' HO490.out).2.2 | (with_reducible refine zT ?_ _) | (with_reducible refine zU ?_ _) | (with_reducible refine zV ?_))); (case side2 => exact (Kd.V_reads' HO490.out).2.1); rintro e w123 ⟨rfl, hb⟩; have n0_ := zA (Kd.V_below (by (with_reducible repeat (first | apply Kd.V_alloc | apply Kd.V_drewN | apply Kd.V_drew)); exact HO490.out) hb); have n1_ := zA (Kd.V_below (by (with_reducible repeat (first | apply Kd.V_alloc | apply Kd.V_drewN | apply Kd.V_drew)); exact HO500.out) hb); have n2_ := zA (Kd.R_below (by (with_reducible repeat first | apply zQ | apply zR | apply zS); exact HO511.out) hb); have n3_ := zA (Kd.R_below (by (with_reducible repeat first | apply zQ | apply zR | apply zS); exact HO518.out) hb); have n4_ := zA (yE (g := gb491) (o := .cells #[.string t486, .string t487, .slice Ao79 t488.length co79] 89 (0, 0)) (by (with_reducible repeat (first | refine zL ?_ _ | refine zN ?_ | refine zM ?_ _)); exact BK491.out) hb); have n5_ := zA (yE (g := gb501) (o := .cells #[.string t496, .string t497, .slice Ao87 t498.length co87] 89 (0, 0)) (by (with_reducible repeat (first | refine zL ?_ _ | refine zN ?_ | refine zM ?_ _)); exact BK501.out) hb); have n6_ := zA (yE (g := gb513) (o := .cells #[.string t507, .string t508, .slice Ao97 t509.length co97] 89 (0, 0)) (by (with_reducible repeat (first | refine zL ?_ _ | refine zN ?_ | refine zM ?_ _)); exact BK513.out) hb); have n7_ := zA (yE (g := gb520) (o := .cells #[.string t514, .string t515, .slice Ao104 t516.length co104] 89 (0, 0)) (by (with_reducible repeat (first | refine zL ?_ _ | refine zN ?_ | refine zM ?_ _)); exact BK520.out) hb); have n8_ := zA (zAD (by repeat (first | (with_reducible first | exact HB.out | apply zH | apply zF | apply zG | refine zI ?_ GE491.out | refine zI ?_ GE501.out | refine zI ?_ GE513.out | refine zI ?_ GE520.out) | exact HB.out)) hb); clear HO490; clear HO500; clear HO511; clear HO518; clear BK491; clear BK501; clear BK513; clear BK520; clear HB; have HO490 := n0_; have HO500 := n1_; have HO511 := n2_; have HO518 := n3_; have BK491 := n4_; have BK501 := n5_; have BK513 := n6_; have BK520 := n7_; have HB := n8_; clear n0_ n1_ n2_ n3_ n4_ n5_ n6_ n7_ n8_; (try clear hb)))
               go_meet
               case rel => exact ⟨_, ((t522 != t493)), (by first | rfl | (simp; done) | (simp [*]; done) | (simp [bne]; done)), H', ⟨by have := HJ8.out; have := HJ27.out; first | omega | exact Nat.le_refl _⟩, ⟨by (with_reducible repeat (first | apply Kd.V_alloc | apply Kd.V_drewN | apply Kd.V_drew)); exact Kd.V_mono HO490.out (fun _ hk => ⟨hk.1.1.1.2, ⟨hk.1.2, ⟨hk.1.1.1.1.1.2, ⟨hk.1.1.1.1.2, ⟨hk.1.1.2, hk.2⟩⟩⟩⟩⟩)⟩, ⟨by (with_reducible repeat (first | apply Kd.V_alloc | apply Kd.V_drewN | apply Kd.V_drew)); exact Kd.V_mono HO500.out (fun _ hk => ⟨hk.1.1.1.2, ⟨hk.1.2, ⟨hk.1.1.1.1.1, ⟨hk.1.1.1.1.2, ⟨hk.1.1.2, hk.2⟩⟩⟩⟩⟩)⟩, ⟨by (with_reducible repeat first | apply zQ | apply zR | apply zS); exact yC HO511.out (fun _ hk => hk.2)⟩, ⟨by (with_reducible repeat first | apply zQ | apply zR | apply zS); exact yC HO518.out (fun _ hk => hk.2)⟩, ⟨by (with_reducible repeat (first | refine zL ?_ _ | refine zN ?_ | refine zM ?_ _)); exact BK491.out⟩, ⟨by (with_reducible repeat (first | refine zL ?_ _ | refine zN ?_ | refine zM ?_ _)); exact BK501.out⟩, ⟨by (with_reducible repeat (first | refine zL ?_ _ | refine zN ?_ | refine zM ?_ _)); exact BK513.out⟩, ⟨by (with_reducible repeat (first | refine zL ?_ _ | refine zN ?_ | refine zM ?_ _)); exact BK520.out⟩, ⟨by repeat (first | (with_reducible first | exact HB.out | apply zH | apply zF | apply zG | refine zI ?_ GE491.out | refine zI ?_ GE501.out | refine zI ?_ GE513.out | refine zI ?_ GE520.out) | exact HB.out)⟩⟩
             ·replace c111 := Bool.eq_false_iff.mpr c111
              subst c111; have H1 : (laws_FnChain.j2 kj27 t506 t512 true t507 t508 t509) = some r := by rw [if_neg (show ¬ (false = true) by decide)] at H; exact H
              clear H; have H := H1; clear H1
              as_aux_lemma =>
               exfalso; revert H; generalize kj27 = q_; intro H; cases q_ with
               | zero => exact absurd H (by simp [laws_FnChain.j2])
               | succ q_ => simp only [laws_FnChain.j2] at H; exact absurd ((Option.some.inj (show some false = some _ from H)).trans hr_.out) (by decide)
           ·rw [if_neg c108] at H
            have c108b0 : (t502.toList == t504.toList) = false := beq_eq_false_iff_ne.mpr c108; have c108b1 : (t502.toList != t504.toList) = true := bne_iff_ne.mpr c108
            as_aux_lemma =>
             exfalso; revert H; generalize kj27 = q_; intro H; cases q_ with
             | zero => exact absurd H (by simp [laws_FnChain.j2])
             | succ q_ => simp only [laws_FnChain.j2] at H; exact absurd ((Option.some.inj (show some false = some _ from H)).trans hr_.out) (by decide)
         ·rw [if_neg c106] at H
          have c106b0 : (t492.toList == t494.toList) = false := beq_eq_false_iff_ne.mpr c106; have c106b1 : (t492.toList != t494.toList) = true := bne_iff_ne.mpr c106
          as_aux_lemma =>
           exfalso; revert H; generalize kj27 = q_; intro H; cases q_ with
           | zero => exact absurd H (by simp [laws_FnChain.j2])
           | succ q_ => simp only [laws_FnChain.j2] at H; exact absurd ((Option.some.inj (show some false = some _ from H)).trans hr_.out) (by decide)
       case rest =>
        clear HC75
        try clear c1
        try clear c2
        try clear p2
        try clear c3
        try clear c3b0
        try clear c4
        try clear p4
        try clear q4
        try clear hx4
        try clear c5
        try clear c6
        try clear p6
        try clear c7
        try clear c8
        try clear c9
        try clear c10
        try clear c11
        try clear c12
        try clear c15
        try clear c17
        try clear c17b0
        try clear c17b1
        try clear c17b2
        try clear c19
        try clear c20
        try clear c20b0
        try clear c20b1
        try clear c20b2
        try clear c21
        try clear c21b0
        try clear c21b1
        try clear c27
        try clear c29
        try clear c30
        try clear c30b0
        try clear c30b1
        try clear c31
        try clear c31b0
        try clear c31b1
        try clear c37
        try clear c38
        try clear c39
        try clear c39b0
        try clear c39b1
        try clear c40
        try clear c40b0
        try clear c40b1
        try clear c41
        try clear c42
        try clear c43
        try clear c44
        try clear c45
        try clear c45b0
        try clear c45b1
        try clear c46
        try clear p46
        try clear q46
        try clear hx46
        try clear c47
        try clear c49
        try clear c58
        try clear c59
        try clear c60
        try clear c61
        try clear c62
        try clear c63
        try clear p64
        try clear c65
        try clear c66
        try clear c67
        try clear c68
        try clear c69
        try clear c70
        try clear c85
        try clear c94
        try clear c95
        try clear c100
        try clear c101
        try clear c102
        try clear c105
        try clear c105b0
        try clear c105b1
        try clear c105b2
        try clear c106
        try clear c106b0
        try clear c106b1
        try clear c107
        try clear c107b0
        try clear c107b1
        try clear c107b2
        try clear c108
        try clear c108b0
        try clear c108b1
        try clear c109
        try clear c109b0
        try clear c109b1
        try clear c109b2
        try clear c111
        try clear c113
        try clear c114
        try clear c115
        try clear c117
        try clear c118
        try clear c121
        try clear hcz103_0
        try clear hcz103_1
        try clear hcz103_2
        try clear hcz116_0
        try clear hcz116_1
        try clear hcz116_2
        try clear hcz119_0
        try clear hcz119_1
        try clear hcz119_2
        try clear hcz122_0
        try clear hcz122_1
        try clear hcz122_2
        try clear hcz52_0
        try clear hcz52_1
        try clear hcz52_2
        try clear hcz55_0
        try clear hcz55_1
        try clear hcz55_2
        try clear hcz60_0
        try clear hcz60_1
        try clear hcz60_2
        try clear hcz63_0
        try clear hcz63_1
        try clear hcz63_2
        try clear hcz64_0
        try clear hcz64_1
        try clear hcz64_2
        try clear hcz78_0
        try clear hcz78_1
        try clear hcz78_2
        try clear hcz81_0
        try clear hcz81_1
        try clear hcz81_2
        try clear hcz86_0
        try clear hcz86_1
        try clear hcz86_2
        try clear hcz89_0
        try clear hcz89_1
        try clear hcz89_2
        try clear hcz96_0
        try clear hcz96_1
        try clear hcz96_2
        try clear hfz103_0
        try clear hfz103_1
        try clear hfz103_2
        try clear hfz116_0
        try clear hfz116_1
        try clear hfz116_2
        try clear hfz119_0
        try clear hfz119_1
        try clear hfz119_2
        try clear hfz122_0
        try clear hfz122_1
        try clear hfz122_2
        try clear hfz52_0
        try clear hfz52_1
        try clear hfz52_2
        try clear hfz55_0
        try clear hfz55_1
        try clear hfz55_2
        try clear hfz60_0
        try clear hfz60_1
        try clear hfz60_2
        try clear hfz63_0
        try clear hfz63_1
        try clear hfz63_2
        try clear hfz64_0
        try clear hfz64_1
        try clear hfz64_2
        try clear hfz78_0
        try clear hfz78_1
        try clear hfz78_2
        try clear hfz81_0
        try clear hfz81_1
        try clear hfz81_2
        try clear hfz86_0
        try clear hfz86_1
        try clear hfz86_2
        try clear hfz89_0
        try clear hfz89_1
        try clear hfz89_2
        try clear hfz96_0
        try clear hfz96_1
        try clear hfz96_2
        try clear hx468_0
        try clear hx468_1
        try clear hx468_2
        try clear p2
        try clear p4
        try clear p46
        try clear p468
        try clear p6
        try clear p64
        try clear q4
        try clear q46
        try clear q468
        obtain ⟨kq, x252_74, rfl, HA, HJ74, HO_492002, HO_502002, HO_514002, HO_521002, BK491, BK501, BK513, BK520, HB⟩ := hcut
        cases kq with
        | zero => exact absurd HA.out (by simp [laws_FnChain.j2])
        | succ kj74 =>
         have H := HA.out; clear HA; simp only [laws_FnChain.j2] at H
         by_cases c124 : x252_74 = true
         ·subst c124
          have H1 : (some false) = some r := by rw [if_pos rfl] at H; exact H
          clear H; have H := H1; clear H1
          as_aux_lemma =>
           exact absurd ((Option.some.inj H).trans hr_.out) (by decide)
         ·replace c124 := Bool.eq_false_iff.mpr c124
          subst c124; have H1 : (if t512 = true then ((impl_BlockBytes.f kj74 t507 t508 t509).bind fun bt523 => (if bt523.2 = true then (some (bt523.1.toList == t506.toList)) else (some false))) else (some true)) = some r := by rw [if_neg (show ¬ (false = true) by decide)] at H; exact H
          clear H; have H := H1; clear H1
          by_cases c125 : t512 = true
          ·subst c125
           have H1 : ((impl_BlockBytes.f kj74 t507 t508 t509).bind fun bt523 => (if bt523.2 = true then (some (bt523.1.toList == t506.toList)) else (some false))) = some r := by rw [if_pos rfl] at H; exact H
           clear H; have H := H1; clear H1; replace H := zAF H; obtain ⟨⟨t523, t524⟩, A1260, H⟩ := H; replace H : (if t524 = true then (some (t523.toList == t506.toList)) else (some false)) = some r := H; have A126 := zA A1260; clear A1260
           by_cases c127 : t524 = true
           ·subst c127
            have H1 : (some (t523.toList == t506.toList)) = some r := by rw [if_pos rfl] at H; exact H
            clear H; have H := H1; clear H1
            as_aux_lemma =>
             obtain rfl := Option.some.inj H; have hnb128 := NB513_491.out; have hnc128 := NB491_513.out; have hnb129 := NB513_501.out; have hnc129 := NB501_513.out; have hnb130 := NB513_520.out; have hnc130 := NB520_513.out; have hcz131_0 : wc.cell? ⟨gb513, 0, none⟩ = some (.string t507) := (zP BK513.out 0).trans rfl; have hcz131_1 : wc.cell? ⟨gb513, 1, none⟩ = some (.string t508) := (zP BK513.out 1).trans rfl; have hcz131_2 : wc.cell? ⟨gb513, 2, none⟩ = some (.slice Ao97 t509.length co97) := (zP BK513.out 2).trans rfl; have hfz131_0 := zO BK513.out 0; have hfz131_1 := zO BK513.out 1; have hfz131_2 := zO BK513.out 2; go_wp2_with (first | ((with_reducible refine yB (f := 62) rfl ?_); refine goesL_ (some 256) rfl rfl Try.func62 (by kernel_rfl) rfl #[.agg #[.string t507, .string t508, .slice Ao97 t509.length co97]] rfl (by (try simp only [zAA, zAB, zAC]); first | done | rfl | (simp only [zZ, zY]; rfl)) ?_; (with_reducible refine (impl_BlockBytes.calls kj74 t507 t508 _ _ t509 t523 true _ ?side1 ?side2 A126.out).mono ?_); (case side1 => repeat (first | exact (yD HO_514002.out).2.2 | (with_reducible refine zT ?_ _) | (with_reducible refine zU ?_ _) | (with_reducible refine zV ?_))); (case side2 => exact (yD HO_514002.out).2.1); rintro e w132 ⟨rfl, hb⟩; refine ⟨_, rfl, ?_⟩; have n0_ := zA (Kd.V_below (by (with_reducible repeat (first | apply Kd.V_alloc | apply Kd.V_drewN | apply Kd.V_drew)); exact HO_492002.out) hb); have n1_ := zA (Kd.V_below (by (with_reducible repeat (first | apply Kd.V_alloc | apply Kd.V_drewN | apply Kd.V_drew)); exact HO_502002.out) hb); have n2_ := zA (Kd.R_below (by (with_reducible repeat first | apply zQ | apply zR | apply zS); exact HO_514002.out) hb); have n3_ := zA (Kd.R_below (by (with_reducible repeat first | apply zQ | apply zR | apply zS); exact HO_521002.out) hb); have n4_ := zA (yE (g := gb491) (o := .cells #[.string t486, .string t487, .slice Ao79 t488.length co79] 89 (0, 0)) (by (with_reducible repeat (first | refine zL ?_ _ | refine zN ?_ | refine zM ?_ _)); exact BK491.out) hb); have n5_ := zA (yE (g := gb501) (o := .cells #[.string t496, .string t497, .slice Ao87 t498.length co87] 89 (0, 0)) (by (with_reducible repeat (first | refine zL ?_ _ | refine zN ?_ | refine zM ?_ _)); exact BK501.out) hb); have n6_ := zA (yE (g := gb513) (o := .cells #[.string t507, .string t508, .slice Ao97 t509.length co97] 89 (0, 0)) (by (with_reducible repeat (first | refine zL ?_ _ | refine zN ?_ | refine zM ?_ _)); exact BK513.out) hb); have n7_ := zA (yE (g := gb520) (o := .cells #[.string t514, .string t515, .slice Ao104 t516.length co104] 89 (0, 0)) (by (with_reducible repeat (first | refine zL ?_ _ | refine zN ?_ | refine zM ?_ _)); exact BK520.out) hb); have n8_ := zA (zAD (by repeat (first | (with_reducible first | exact HB.out | apply zH | apply zF | apply zG | refine zI ?_ GE491.out | refine zI ?_ GE501.out | refine zI ?_ GE513.out | refine zI ?_ GE520.out) | exact HB.out)) hb); clear HO_492002; clear HO_502002; clear HO_514002; clear HO_521002; clear BK491; clear BK501; clear BK513; clear BK520; clear HB; have HO_492002 := n0_; have HO_502002 := n1_; have HO_514002 := n2_; have HO_521002 := n3_; have BK491 := n4_; have BK501 := n5_; have BK513 := n6_; have BK520 := n7_; have HB := n8_; clear n0_ n1_ n2_ n3_ n4_ n5_ n6_ n7_ n8_; (try clear hb))); go_ret; exact ⟨by first | rfl | (simp <;> rfl) | (simp [*] <;> rfl), by repeat (first | (with_reducible first | exact HB.out | apply zH | apply zF | apply zG | refine zI ?_ GE491.out | refine zI ?_ GE501.out | refine zI ?_ GE513.out | refine zI ?_ GE520.out) | exact HB.out)⟩
           ·replace c127 := Bool.eq_false_iff.mpr c127
            subst c127; have H1 : (some false) = some r := by rw [if_neg (show ¬ (false = true) by decide)] at H; exact H
            clear H; have H := H1; clear H1
            as_aux_lemma =>
             exact absurd ((Option.some.inj H).trans hr_.out) (by decide)
          ·replace c125 := Bool.eq_false_iff.mpr c125
           subst c125; have H1 : (some true) = some r := by rw [if_neg (show ¬ (false = true) by decide)] at H; exact H
           clear H; have H := H1; clear H1
           as_aux_lemma =>
            obtain rfl := Option.some.inj H; go_wp2; go_ret; exact ⟨by first | rfl | (simp <;> rfl) | (simp [*] <;> rfl), by repeat (first | (with_reducible first | exact HB.out | apply zH | apply zF | apply zG | refine zI ?_ GE491.out | refine zI ?_ GE501.out | refine zI ?_ GE513.out | refine zI ?_ GE520.out) | exact HB.out)⟩
def laws_FnChain.Pure : Prop := ∀ (l0 : List Int) (l1 : List Int), l0.length ≤ maxLen → l0.length * 1 ≤ 140737488351232 → (∀ x ∈ l0, (Lit.int .u8 x).wf = true) → l1.length ≤ maxLen → l1.length * 1 ≤ 140737488351232 → (∀ x ∈ l1, (Lit.int .u8 x).wf = true) → ∃ k, laws_FnChain.f k l0 l1 = some true
theorem laws_FnChain.walk (P : laws_FnChain.Pure) (a0 : Option Addr) (len0 cap0 : Nat) (z0 : List Int) (a1 : Option Addr) (len1 cap1 : Nat) (z1 : List Int) (w : World) (w0 : (a0 = none ∧ len0 = 0 ∧ cap0 = 0 ∧ z0 = []) ∨ ∃ x, a0 = some x ∧ len0 ≤ cap0 ∧ cap0 ≤ maxLen ∧ z0.length = cap0 ∧ (∀ i, i < z0.length → w.cell? (x.add i) = some (.int .u8 (z0.getD i 0))) ∧ ∀ n ∈ z0, (Lit.int .u8 n).wf = true) (y0 : len0 * 1 ≤ 140737488351232) (w1 : (a1 = none ∧ len1 = 0 ∧ cap1 = 0 ∧ z1 = []) ∨ ∃ x, a1 = some x ∧ len1 ≤ cap1 ∧ cap1 ≤ maxLen ∧ z1.length = cap1 ∧ (∀ i, i < z1.length → w.cell? (x.add i) = some (.int .u8 (z1.getD i 0))) ∧ ∀ n ∈ z1, (Lit.int .u8 n).wf = true) (y1 : len1 * 1 ≤ 140737488351232) :
  Calls Try.prog 7 #[.slice a0 len0 cap0, .slice a1 len1 cap1] w fun e w' => e = .returned (.bool true) ∧ Below w.heap.size w w' := by
 obtain ⟨l0, rfl, hr0, hm0, hw0, hc0⟩ := ReadsInt.ofRowC w0; obtain ⟨l1, rfl, hr1, hm1, hw1, hc1⟩ := ReadsInt.ofRowC w1; obtain ⟨k, h⟩ := P l0 l1 hm0 y0 hw0 hm1 y1 hw1; refine (laws_FnChain.calls k _ _ l0 _ _ l1 true w (Kd.C_of_reads (d := (0 : Int)) (h1 := fun _ => rfl) hr0) hc0 (Kd.C_of_reads (d := (0 : Int)) (h1 := fun _ => rfl) hr1) hc1 h ⟨rfl⟩).mono ?_; rintro e w' ⟨rfl, hd⟩; exact ⟨rfl, hd⟩
end Go.Proofs.Ythhkkhnjkoacnaa.PA
end
section
namespace Go.Proofs.Ythhkkhnjkoacnaa.PB
open Go.RowKit Go.Proofs.YthhkkhnjkoacnaaW.PrintWords Go.Proofs.YthhkkhnjkoacnaaW.PrintLast Go.Proofs.YthhkkhnjkoacnaaW.PrintMore
set_option linter.unusedVariables false
theorem ev_pos {α : Type} {c : Prop} [Decidable c] {f g : Nat → Option α} {r : α} (hc : c) (h : Ev f r) : Ev (fun k => if c then f k else g k) r := by
 simp only [if_pos hc]; exact h
theorem ev_neg {α : Type} {c : Prop} [Decidable c] {f g : Nat → Option α} {r : α} (hc : ¬ c) (h : Ev g r) : Ev (fun k => if c then f k else g k) r := by
 simp only [if_neg hc]; exact h
theorem ev_bind {α β : Type} {g : Nat → Option α} {f : Nat → α → Option β} {a : α} {r : β} (h : Ev g a) (k : Ev (fun n => f n a) r) : Ev (fun n => (g n).bind (f n)) r := Ev.bind h k
theorem ev_const {α β : Type} {o : Option α} {f : Nat → α → Option β} {a : α} {r : β} (h : o = some a) (k : Ev (fun n => f n a) r) : Ev (fun n => o.bind (f n)) r := by
 subst h; exact k
theorem ev_of_eq {α : Type} {o : Option α} {r : α} (h : o = some r) : Ev (fun _ => o) r := by subst h; exact Ev.now r
theorem ev_eq {α : Type} {f : Nat → Option α} {r r' : α} (h : Ev f r) (e : r = r') : Ev f r' := e ▸ h
theorem ev_unique {α : Type} {f : Nat → Option α} {r r' : α} (h : Ev f r) (h' : Ev f r') : r = r' := by
 obtain ⟨K, h⟩ := h
 obtain ⟨K', h'⟩ := h'
 have := (h (max K K') (by omega)).symm.trans (h' (max K K') (by omega))
 simpa using this
theorem w64 {x : Int} (h0 : -9223372036854775808 ≤ x) (h1 : x ≤ 9223372036854775807) : wrap64 x = x := by
 unfold wrap64; omega
theorem ba_ext {a b : ByteArray} (h : a.toList = b.toList) : a = b := by
 rw [ByteArray.toList_eq, ByteArray.toList_eq] at h
 have h' : a.data = b.data := Array.toList_inj.mp h
 cases a; cases b; simp_all
theorem ba_iff {a b : ByteArray} : a.toList = b.toList ↔ a = b := ⟨ba_ext, fun h => by rw [h]⟩
theorem size_toList (s : ByteArray) : s.toList.length = s.size := by rw [ByteArray.toList_eq]; exact data_length s
theorem bt_get (s : ByteArray) (i : Nat) (h : i < s.size) : bt s (i : Int) = ((s.toList.getD i 0).toNat : Int) := by
 rw [ByteArray.toList_eq]
 unfold bt
 rw [dif_pos (by simpa using h)]
 have h' : i < s.data.toList.length := by rw [data_length]; exact h
 simp [List.getD_eq_getElem?_getD, List.getElem?_eq_getElem h']
 rfl
end Go.Proofs.Ythhkkhnjkoacnaa.PB
end
section
namespace Go.Proofs.Ythhkkhnjkoacnaa.PD
open Go.RowKit Go.Proofs.YthhkkhnjkoacnaaW.PrintWords Go.Proofs.YthhkkhnjkoacnaaW.PrintLast Go.Proofs.YthhkkhnjkoacnaaW.PrintMore Go.Proofs.Ythhkkhnjkoacnaa.PB Go.Proofs.Ythhkkhnjkoacnaa.PA
set_option linter.unusedVariables false
def dstep (p : Int × Int) (c : UInt8) : Int × Int := ((p.1 + (c.toNat : Int)) % 65521, (p.2 + (p.1 + (c.toNat : Int)) % 65521) % 65521)
def dfold (p : Int × Int) (l : List UInt8) : Int × Int := l.foldl dstep p
def InP (p : Int × Int) : Prop := 0 ≤ p.1 ∧ p.1 < 65521 ∧ 0 ≤ p.2 ∧ p.2 < 65521
theorem dstep_in {p : Int × Int} {c : UInt8} : InP (dstep p c) := by
 unfold InP dstep; refine ⟨?_, ?_, ?_, ?_⟩ <;> simp only <;> omega
theorem dfold_in {p : Int × Int} (h : InP p) (l : List UInt8) : InP (dfold p l) := by
 induction l generalizing p with
 | nil => exact h
 | cons c l ih => exact ih dstep_in
def four (p : Int × Int) : ByteArray := strOfNums [p.2 / 256 % 256, p.2 % 256, p.1 / 256 % 256, p.1 % 256]
def dig (kind : Int) (s : ByteArray) : ByteArray := four (dfold (kind + 1, kind + 1) s.toList)
theorem four_size (p : Int × Int) : (four p).size = 4 := by unfold four; rw [strOfNums_size]; rfl
theorem dig_size (kind : Int) (s : ByteArray) : (dig kind s).size = 4 := four_size _
theorem drop_at (l : List UInt8) (i : Nat) (h : i < l.length) : l.drop i = l.getD i 0 :: l.drop (i + 1) := by
 rw [List.drop_eq_getElem_cons h]; simp [List.getD_eq_getElem?_getD, List.getElem?_eq_getElem h]
theorem step_arith {A B : Int} {c : Nat} (hA : 0 ≤ A ∧ A < 65521 ∧ 0 ≤ B ∧ B < 65521) (hc : c < 256) :
  Int.tmod (wrap64 (A + wrap64 (c : Int))) 65521 = (A + (c : Int)) % 65521 ∧ Int.tmod (wrap64 (B + (A + (c : Int)) % 65521)) 65521 = (B + (A + (c : Int)) % 65521) % 65521 := by
 have h1 : wrap64 (c : Int) = c := w64 (by omega) (by omega)
 have h2 : wrap64 (A + c) = A + c := w64 (by omega) (by omega)
 have h3 : wrap64 (B + (A + (c : Int)) % 65521) = B + (A + (c : Int)) % 65521 := w64 (by omega) (by omega)
 rw [h1, h2, h3, Int.tmod_eq_emod_of_nonneg (by omega), Int.tmod_eq_emod_of_nonneg (by omega)]
 exact ⟨rfl, rfl⟩
theorem feed_spec (s : ByteArray) (hs : s.size ≤ 1000000000000) (L : Int) (hL : 0 ≤ L ∧ L ≤ 1000000000000) : ∀ (d i : Nat) (A B : Int), i + d = s.size → InP (A, B) →
  Ev (fun k => spec_l1Feed.l0 k s (i : Int) A B L) ((dfold (A, B) (s.toList.drop i)).1, (dfold (A, B) (s.toList.drop i)).2, L + s.size) := by
 intro d
 induction d with
 | zero =>
  intro i A B hi hp
  refine Ev.step (f := fun _ => some (A, B, wrap64 (L + (s.size : Int)))) (fun k => ?_) ?_
  ·simp only [spec_l1Feed.l0]; rw [if_neg (by omega)]
  ·rw [List.drop_eq_nil_of_le (by rw [size_toList]; omega)]
   rw [w64 (by omega) (by omega)]
   exact Ev.now _
 | succ d ih =>
  intro i A B hi hp
  have hlt : i < s.size := by omega
  have hb := bt_get s i hlt
  have hc : (s.toList.getD i 0).toNat < 256 := UInt8.toNat_lt _
  have ha := step_arith (A := A) (B := B) hp hc
  refine Ev.step (f := fun k => spec_l1Feed.l0 k s ((i + 1 : Nat) : Int) (dstep (A, B) (s.toList.getD i 0)).1 (dstep (A, B) (s.toList.getD i 0)).2 L) (fun k => ?_) ?_
  ·simp only [spec_l1Feed.l0]; rw [if_pos (by omega), if_pos (by omega), hb, ha.1, ha.2, w64 (x := (i : Int) + 1) (by omega) (by omega)]
   simp only [dstep]
   congr 1
  ·rw [drop_at _ _ (by rw [size_toList]; exact hlt)]
   exact ih (i + 1) _ _ (by omega) dstep_in
theorem feed_impl (s : ByteArray) (hs : s.size ≤ 1000000000000) (L : Int) (hL : 0 ≤ L ∧ L ≤ 1000000000000) : ∀ (d i : Nat) (A B : Int), i + d = s.size → InP (A, B) →
  Ev (fun k => impl_Mix_feed.l0 k s (s.size : Int) (i : Int) A B L) ((dfold (A, B) (s.toList.drop i)).1, (dfold (A, B) (s.toList.drop i)).2, L + s.size) := by
 intro d
 induction d with
 | zero =>
  intro i A B hi hp
  refine Ev.step (f := fun _ => some (A, B, wrap64 (L + (s.size : Int)))) (fun k => ?_) ?_
  ·simp only [impl_Mix_feed.l0]; rw [if_neg (by omega)]
  ·rw [List.drop_eq_nil_of_le (by rw [size_toList]; omega)]
   rw [w64 (by omega) (by omega)]
   exact Ev.now _
 | succ d ih =>
  intro i A B hi hp
  have hlt : i < s.size := by omega
  have hb := bt_get s i hlt
  have hc : (s.toList.getD i 0).toNat < 256 := UInt8.toNat_lt _
  have ha := step_arith (A := A) (B := B) hp hc
  refine Ev.step (f := fun k => impl_Mix_feed.l0 k s (s.size : Int) ((i + 1 : Nat) : Int) (dstep (A, B) (s.toList.getD i 0)).1 (dstep (A, B) (s.toList.getD i 0)).2 L) (fun k => ?_) ?_
  ·simp only [impl_Mix_feed.l0]; rw [if_pos (by omega), if_pos (by omega), if_pos (by omega), hb, ha.1, ha.2, w64 (x := (i : Int) + 1) (by omega) (by omega)]
   simp only [dstep]
   congr 1
  ·rw [drop_at _ _ (by rw [size_toList]; exact hlt)]
   exact ih (i + 1) _ _ (by omega) dstep_in
def Kd_ (c : Int) : Prop := 97 ≤ c ∧ c ≤ 122
theorem digS (kind : Int) (hk : Kd_ kind) (s : ByteArray) (hs : s.size ≤ 1000000000000) : Ev (fun k => spec_l1Digest.f k kind s) (dig kind s) := by
 obtain ⟨h0, h1⟩ := hk
 have e1 : spec_NewMix.f kind = some (kind + 1, kind + 1, 0, true) := by
  unfold spec_NewMix.f spec_l1Kind.f
  rw [if_pos (by omega)]
  simp only [Option.bind_some, decide_eq_true h1, if_true]
  rw [w64 (x := kind) (by omega) (by omega), w64 (by omega) (by omega), Int.add_comm]
 have hp : InP (kind + 1, kind + 1) := by unfold InP; refine ⟨?_, ?_, ?_, ?_⟩ <;> simp only <;> omega
 obtain ⟨K, h⟩ := feed_spec s hs 0 (by omega) s.size 0 (kind + 1) (kind + 1) (by omega) hp
 refine ⟨K, fun k hk => ?_⟩
 have h' := h k hk
 dsimp only at h'
 rw [show ((0 : Nat) : Int) = 0 from rfl] at h'
 unfold spec_l1Digest.f spec_l1Feed.f spec_l1End.f
 simp only [e1, Option.bind_some]
 rw [h']
 simp only [Option.bind_some, List.drop_zero]
 rfl
theorem digI (kind : Int) (hk : Kd_ kind) (s : ByteArray) (hs : s.size ≤ 1000000000000) : Ev (fun k => impl_digest.f k kind s) (dig kind s) := by
 obtain ⟨h0, h1⟩ := hk
 have e1 : impl_newMix.f kind = some (kind + 1, kind + 1, 0) := by
  unfold impl_newMix.f
  rw [w64 (x := kind) (by omega) (by omega), w64 (by omega) (by omega)]
 have hp : InP (kind + 1, kind + 1) := by unfold InP; refine ⟨?_, ?_, ?_, ?_⟩ <;> simp only <;> omega
 obtain ⟨K, h⟩ := feed_impl s hs 0 (by omega) s.size 0 (kind + 1) (kind + 1) (by omega) hp
 refine ⟨K, fun k hk => ?_⟩
 have h' := h k hk
 dsimp only at h'
 rw [show ((0 : Nat) : Int) = 0 from rfl] at h'
 have hq := dfold_in hp s.toList
 unfold impl_digest.f impl_Mix_feed.f impl_Mix_end.f
 simp only [e1, Option.bind_some]
 rw [h']
 simp only [Option.bind_some, List.drop_zero]
 unfold dig four
 generalize dfold (kind + 1, kind + 1) s.toList = p at hq ⊢
 obtain ⟨q0, q1, q2, q3⟩ := hq
 rw [Int.tdiv_eq_ediv_of_nonneg q2, Int.tdiv_eq_ediv_of_nonneg q0, Int.tmod_eq_emod_of_nonneg q2, Int.tmod_eq_emod_of_nonneg q0, w64 (x := p.2 / 256) (by omega) (by omega), w64 (x := p.1 / 256) (by omega) (by omega)]
 rw [Int.emod_emod_of_dvd p.2 (Int.dvd_refl _), Int.emod_emod_of_dvd p.1 (Int.dvd_refl _)]
def one (n : Int) : ByteArray := strOfNums [n % 256]
theorem one_size (n : Int) : (one n).size = 1 := by unfold one; rw [strOfNums_size]; rfl
theorem oneI (n : Int) : impl_oneByte.f n = some (one n) := rfl
end Go.Proofs.Ythhkkhnjkoacnaa.PD
end
section
namespace Go.Proofs.Ythhkkhnjkoacnaa.PK
open Go.RowKit Go.Proofs.YthhkkhnjkoacnaaW.PrintWords Go.Proofs.YthhkkhnjkoacnaaW.PrintLast Go.Proofs.YthhkkhnjkoacnaaW.PrintMore Go.Proofs.Ythhkkhnjkoacnaa.PB Go.Proofs.Ythhkkhnjkoacnaa.PD Go.Proofs.Ythhkkhnjkoacnaa.PA
set_option linter.unusedVariables false
theorem app_size (a b : ByteArray) : (a ++ b).size = a.size + b.size := ByteArray.size_append
def sm : List Int → Int
 | [] => 0
 | n :: l => (15 - n) + sm l
end Go.Proofs.Ythhkkhnjkoacnaa.PK
end
section
namespace Go.Proofs.Ythhkkhnjkoacnaa.PL
open Go.RowKit Go.Proofs.YthhkkhnjkoacnaaW.PrintWords Go.Proofs.YthhkkhnjkoacnaaW.PrintLast Go.Proofs.YthhkkhnjkoacnaaW.PrintMore Go.Proofs.Ythhkkhnjkoacnaa.PB Go.Proofs.Ythhkkhnjkoacnaa.PA
set_option linter.unusedVariables false
theorem rdOf_at {α : Type} (d : α) (l : List α) (i : Nat) (h : i < l.length) : rdOf d l (i : Int) = l[i] := by
 simp [rdOf, List.getD_eq_getElem?_getD, List.getElem?_eq_getElem h]
def szL : List ByteArray → Nat
 | [] => 0
 | s :: l => s.size + szL l
def total (l : List ByteArray) : Nat := l.length + szL l
end Go.Proofs.Ythhkkhnjkoacnaa.PL
end
section
namespace Go.Proofs.Ythhkkhnjkoacnaa.PS

end Go.Proofs.Ythhkkhnjkoacnaa.PS
end
section
namespace Go.Proofs.Ythhkkhnjkoacnaa.PT
open Go.RowKit Go.Proofs.YthhkkhnjkoacnaaW.PrintWords Go.Proofs.YthhkkhnjkoacnaaW.PrintLast Go.Proofs.YthhkkhnjkoacnaaW.PrintMore Go.Proofs.Ythhkkhnjkoacnaa.PB Go.Proofs.Ythhkkhnjkoacnaa.PD Go.Proofs.Ythhkkhnjkoacnaa.PK Go.Proofs.Ythhkkhnjkoacnaa.PL Go.Proofs.Ythhkkhnjkoacnaa.PS Go.Proofs.Ythhkkhnjkoacnaa.PA
set_option linter.unusedVariables false
theorem inS (a b c : Int) : spec_l1In.f a b c = some (decide (b ≤ a ∧ a ≤ c)) := by
 unfold spec_l1In.f
 by_cases h : a ≥ b
 ·rw [if_pos h]; simp [show b ≤ a from h]
 ·rw [if_neg h]; simp [show ¬ b ≤ a from h]
theorem inI (a b c : Int) : impl_within.f a b c = some (decide (b ≤ a ∧ a ≤ c)) := by
 unfold impl_within.f
 by_cases h : a ≥ b
 ·rw [if_pos h]; simp [show b ≤ a from h]
 ·rw [if_neg h]; simp [show ¬ b ≤ a from h]
end Go.Proofs.Ythhkkhnjkoacnaa.PT
end
section
namespace Go.Proofs.Ythhkkhnjkoacnaa.PU
open Go.RowKit Go.Proofs.YthhkkhnjkoacnaaW.PrintWords Go.Proofs.YthhkkhnjkoacnaaW.PrintLast Go.Proofs.YthhkkhnjkoacnaaW.PrintMore Go.Proofs.Ythhkkhnjkoacnaa.PB Go.Proofs.Ythhkkhnjkoacnaa.PD Go.Proofs.Ythhkkhnjkoacnaa.PK Go.Proofs.Ythhkkhnjkoacnaa.PL Go.Proofs.Ythhkkhnjkoacnaa.PS Go.Proofs.Ythhkkhnjkoacnaa.PT Go.Proofs.Ythhkkhnjkoacnaa.PA
set_option linter.unusedVariables false
theorem idx_any {α : Type} (l : List α) (rf : List α → Int → α) (hrf : ∀ i (h : i < l.length), rf l (i : Int) = l[i]) (L0 : Nat → List α → Int → Int → Option Int) (cl : Nat → α → Option Bool) (p : α → Bool)
  (hstep : ∀ k n i, L0 (k + 1) l n i = if i < n then (if 0 ≤ i then (if i < (l.length : Int) then ((cl k (rf l i)).bind fun t => if t = true then some i else L0 k l n (wrap64 (i + 1))) else none) else none) else some (-1))
  (hp : ∀ x ∈ l, Ev (fun k => cl k x) (p x)) (hl : l.length ≤ 4000000000000000000) : ∃ r, Ev (fun k => L0 k l (l.length : Int) 0) r ∧ decide (r ≥ 0) = l.any p := by
 have key : ∀ (d i : Nat), i + d = l.length → ∃ r, Ev (fun k => L0 k l (l.length : Int) (i : Int)) r ∧ decide (r ≥ 0) = (l.drop i).any p := by
  intro d
  induction d with
  | zero =>
   intro i hi
   refine ⟨-1, Ev.step (f := fun _ => some (-1)) (fun k => ?_) (Ev.now _), ?_⟩
   ·rw [hstep, if_neg (by omega)]
   ·rw [List.drop_eq_nil_of_le (by omega)]; rfl
  | succ d ih =>
   intro i hi
   have hlt : i < l.length := by omega
   have hpx := hp _ (List.getElem_mem hlt)
   rw [List.drop_eq_getElem_cons hlt, List.any_cons]
   have st : ∀ k, L0 (k + 1) l (l.length : Int) (i : Int) = (cl k l[i]).bind fun t => if t = true then some (i : Int) else L0 k l (l.length : Int) ((i + 1 : Nat) : Int) := by
    intro k
    rw [hstep, if_pos (by omega), if_pos (by omega), if_pos (by omega), hrf i hlt, w64 (x := (i : Int) + 1) (by omega) (by omega)]
    rfl
   cases hb : p l[i] with
   | true =>
    rw [hb] at hpx
    refine ⟨(i : Int), Ev.step (f := fun k => (cl k l[i]).bind fun t => if t = true then some (i : Int) else L0 k l (l.length : Int) ((i + 1 : Nat) : Int)) st (ev_bind hpx (ev_pos rfl (Ev.now _))), ?_⟩
    simp only [Bool.true_or]
    exact decide_eq_true (by omega)
   | false =>
    rw [hb] at hpx
    obtain ⟨r, hr, e⟩ := ih (i + 1) (by omega)
    refine ⟨r, Ev.step (f := fun k => (cl k l[i]).bind fun t => if t = true then some (i : Int) else L0 k l (l.length : Int) ((i + 1 : Nat) : Int)) st (ev_bind hpx (ev_neg (by simp) hr)), ?_⟩
    rw [Bool.false_or]; exact e
 obtain ⟨r, hr, e⟩ := key l.length 0 (by omega)
 exact ⟨r, hr, by rw [e, List.drop_zero]⟩
theorem isDigI (s : ByteArray) : impl_isDigest.f s = some (decide (s.size = 4)) := by
 unfold impl_isDigest.f
 refine congrArg some ?_
 by_cases h : s.size = 4
 ·rw [decide_eq_true h, h]; rfl
 ·rw [decide_eq_false h]; exact beq_eq_false_iff_ne.mpr (by omega)
end Go.Proofs.Ythhkkhnjkoacnaa.PU
end
section
namespace Go.Proofs.Ythhkkhnjkoacnaa.PG
open Go.RowKit Go.Proofs.YthhkkhnjkoacnaaW.PrintWords Go.Proofs.YthhkkhnjkoacnaaW.PrintLast Go.Proofs.YthhkkhnjkoacnaaW.PrintMore Go.Proofs.Ythhkkhnjkoacnaa.PB Go.Proofs.Ythhkkhnjkoacnaa.PL
set_option linter.unusedVariables false
theorem loop_up {β : Type} {r : β} (n : Nat) (S : Nat → Nat → Option β) (hend : Ev (S n) r) (hround : ∀ i, i < n → Ev (S (i + 1)) r → Ev (S i) r) : Ev (S 0) r := by
 have key : ∀ d i, i + d = n → Ev (S i) r := by
  intro d
  induction d with
  | zero => intro i hi; rw [show i = n by omega]; exact hend
  | succ d ih => intro i hi; exact hround i (by omega) (ih (i + 1) (by omega))
 exact key n 0 (by omega)
end Go.Proofs.Ythhkkhnjkoacnaa.PG
end
section
namespace Go.Proofs.Ythhkkhnjkoacnaa.PQ
open Go.RowKit Go.Proofs.YthhkkhnjkoacnaaW.PrintWords Go.Proofs.YthhkkhnjkoacnaaW.PrintLast Go.Proofs.YthhkkhnjkoacnaaW.PrintMore Go.Proofs.Ythhkkhnjkoacnaa.PB Go.Proofs.Ythhkkhnjkoacnaa.PD Go.Proofs.Ythhkkhnjkoacnaa.PK Go.Proofs.Ythhkkhnjkoacnaa.PL Go.Proofs.Ythhkkhnjkoacnaa.PS Go.Proofs.Ythhkkhnjkoacnaa.PT Go.Proofs.Ythhkkhnjkoacnaa.PU Go.Proofs.Ythhkkhnjkoacnaa.PG Go.Proofs.Ythhkkhnjkoacnaa.PA
set_option linter.unusedVariables false
def rowFrom : ByteArray → List ByteArray → ByteArray
 | acc, [] => acc
 | acc, s :: l => rowFrom (acc ++ (one (s.size : Int) ++ s)) l
def rowM (l : List ByteArray) : ByteArray := rowFrom ⟨#[]⟩ l
theorem rowFrom_size (l : List ByteArray) : ∀ acc, (rowFrom acc l).size = acc.size + total l := by
 induction l with
 | nil => intro acc; simp [rowFrom, total, szL]
 | cons s l ih =>
  intro acc
  have e : total (s :: l) = 1 + s.size + total l := by simp only [total, szL, List.length_cons]; omega
  rw [show rowFrom acc (s :: l) = rowFrom (acc ++ (one (s.size : Int) ++ s)) l from rfl, ih, app_size, app_size, one_size, e]; omega
theorem rowM_size (l : List ByteArray) : (rowM l).size = total l := by
 unfold rowM; rw [rowFrom_size]; exact Nat.zero_add _
theorem rowS (l : List ByteArray) (hl : total l ≤ 1000000000) : Ev (fun k => spec_l1Row.f k l) (rowM l) := by
 have hlen : l.length ≤ 1000000000 := by unfold total at hl; omega
 have key : ∀ (d i : Nat) (acc : ByteArray), i + d = l.length → acc.size + total (l.drop i) ≤ 2000000000 → Ev (fun k => spec_l1Row.l0 k acc l (l.length : Int) (i : Int)) (rowFrom acc (l.drop i)) := by
  intro d
  induction d with
  | zero =>
   intro i acc hi _
   rw [List.drop_eq_nil_of_le (by omega)]
   refine Ev.step (f := fun _ => some acc) (fun k => ?_) (Ev.now _)
   simp only [spec_l1Row.l0]; rw [if_neg (by omega)]
  | succ d ih =>
   intro i acc hi ha
   have hlt : i < l.length := by omega
   rw [List.drop_eq_getElem_cons hlt] at ha ⊢
   have e : total (l[i] :: l.drop (i + 1)) = 1 + l[i].size + total (l.drop (i + 1)) := by simp only [total, szL, List.length_cons]; omega
   rw [e] at ha
   refine Ev.step (f := fun k => spec_l1Row.l0 k (acc ++ (one (l[i].size : Int) ++ l[i])) l (l.length : Int) ((i + 1 : Nat) : Int)) (fun k => ?_) ?_
   ·simp only [spec_l1Row.l0]
    rw [if_pos (by omega), if_pos (by omega), if_pos (by omega), rdOf_at _ _ _ hlt, w64 (x := (i : Int) + 1) (by omega) (by omega)]
    have e1 : (strOfNums [(l[i].size : Int) % 256]).size = 1 := by rw [strOfNums_size]; rfl
    simp only [Option.bind_some]
    rw [if_pos (by omega), if_pos (by rw [app_size]; omega)]
    rfl
   ·exact ih (i + 1) _ (by omega) (by rw [app_size, app_size, one_size]; omega)
 exact key l.length 0 ⟨#[]⟩ (by omega) (by rw [List.drop_zero]; show 0 + total l ≤ _; omega)
end Go.Proofs.Ythhkkhnjkoacnaa.PQ
end
section
namespace Go.Proofs.Ythhkkhnjkoacnaa.PV

end Go.Proofs.Ythhkkhnjkoacnaa.PV
end
section
namespace Go.Proofs.Ythhkkhnjkoacnaa.PW
open Go.RowKit Go.Proofs.YthhkkhnjkoacnaaW.PrintWords Go.Proofs.YthhkkhnjkoacnaaW.PrintLast Go.Proofs.YthhkkhnjkoacnaaW.PrintMore Go.Proofs.Ythhkkhnjkoacnaa.PB Go.Proofs.Ythhkkhnjkoacnaa.PD Go.Proofs.Ythhkkhnjkoacnaa.PK Go.Proofs.Ythhkkhnjkoacnaa.PL Go.Proofs.Ythhkkhnjkoacnaa.PS Go.Proofs.Ythhkkhnjkoacnaa.PT Go.Proofs.Ythhkkhnjkoacnaa.PU Go.Proofs.Ythhkkhnjkoacnaa.PG Go.Proofs.Ythhkkhnjkoacnaa.PQ Go.Proofs.Ythhkkhnjkoacnaa.PV Go.Proofs.Ythhkkhnjkoacnaa.PA
set_option linter.unusedVariables false
noncomputable def ch (P : Prop) : Bool := @decide P (Classical.propDecidable P)
theorem ch_yes {P : Prop} (h : P) : ch P = true := @decide_eq_true P (Classical.propDecidable P) h
theorem ch_no {P : Prop} (h : ¬ P) : ch P = false := @decide_eq_false P (Classical.propDecidable P) h
theorem ch_true {P : Prop} (h : ch P = true) : P := @of_decide_eq_true P (Classical.propDecidable P) h
theorem loop_yes {β : Type} (n : Nat) (S : Nat → Nat → Option β) (Q : Nat → Prop) (b : β) (hround : ∀ r i, i < n → Q i → Ev (S (i + 1)) r → Ev (S i) r) (hend : Ev (S n) b) (hq : ∀ i, i < n → Q i) : Ev (S 0) b :=
 loop_up n S hend (fun i hi h => hround b i hi (hq i hi) h)
theorem loop_no {β : Type} (n : Nat) (S : Nat → Nat → Option β) (Q : Nat → Prop) (no : β) (hround : ∀ r i, i < n → Q i → Ev (S (i + 1)) r → Ev (S i) r) (hno : ∀ i, i < n → ¬ Q i → Ev (S i) no) (hq : ¬ ∀ i, i < n → Q i) : Ev (S 0) no := by
 refine Classical.byContradiction fun hc => hq ?_
 have key : ∀ i, i ≤ n → (¬ Ev (S i) no) ∧ ∀ j, j < i → Q j := by
  intro i
  induction i with
  | zero => intro _; exact ⟨hc, fun j hj => absurd hj (Nat.not_lt_zero j)⟩
  | succ i ih =>
   intro hi
   obtain ⟨h1, h2⟩ := ih (by omega)
   have hQ : Q i := Classical.byContradiction fun h => h1 (hno i (by omega) h)
   refine ⟨fun h => h1 (hround no i (by omega) hQ h), fun j hj => ?_⟩
   by_cases e : j = i
   ·subst e; exact hQ
   ·exact h2 j (by omega)
 exact (key n (Nat.le_refl n)).2
theorem has_str (l : List ByteArray) (L0 : Nat → List ByteArray → Int → Int → Option Int) (cl : Nat → ByteArray → Option Bool) (p : ByteArray → Bool)
  (hstep : ∀ k n i, L0 (k + 1) l n i = if i < n then (if 0 ≤ i then (if i < (l.length : Int) then ((cl k (rdOf ByteArray.empty l i)).bind fun t => if t = true then some i else L0 k l n (wrap64 (i + 1))) else none) else none) else some (-1))
  (hp : ∀ x ∈ l, Ev (fun k => cl k x) (p x)) (hl : l.length ≤ 4000000000000000000) : Ev (fun k => (L0 k l (l.length : Int) 0).bind fun t => some (decide (t ≥ 0))) (l.any p) := by
 obtain ⟨r, hr, e⟩ := idx_any l (fun l i => rdOf ByteArray.empty l i) (fun i h => rdOf_at _ l i h) L0 cl p hstep hp hl
 rw [← e]
 exact ev_bind (f := fun _ t => some (decide (t ≥ 0))) hr (Ev.now _)
theorem not_any {α : Type} (p : α → Bool) : ∀ l : List α, (l.any fun s => !p s) = !(l.all p) := by
 intro l
 induction l with
 | nil => rfl
 | cons x l ih => simp only [List.any_cons, List.all_cons, Bool.not_and, ih]
theorem all_at (l : List ByteArray) (p : ByteArray → Bool) : l.all p = true ↔ ∀ i, i < l.length → p (rdOf ByteArray.empty l (i : Int)) = true := by
 rw [List.all_eq_true]
 constructor
 ·intro h i hi
  rw [rdOf_at _ _ _ hi]
  exact h _ (List.getElem_mem hi)
 ·intro h x hx
  obtain ⟨i, hi, e⟩ := List.getElem_of_mem hx
  have := h i hi
  rw [rdOf_at _ _ _ hi, e] at this
  exact this
abbrev tx (l : List ByteArray) (i : Nat) : ByteArray := rdOf ByteArray.empty l (i : Int)
end Go.Proofs.Ythhkkhnjkoacnaa.PW
end
section
namespace Go.Proofs.Ythhkkhnjkoacnaa.PX
open Go.RowKit Go.Proofs.YthhkkhnjkoacnaaW.PrintWords Go.Proofs.YthhkkhnjkoacnaaW.PrintLast Go.Proofs.YthhkkhnjkoacnaaW.PrintMore Go.Proofs.Ythhkkhnjkoacnaa.PB Go.Proofs.Ythhkkhnjkoacnaa.PD Go.Proofs.Ythhkkhnjkoacnaa.PK Go.Proofs.Ythhkkhnjkoacnaa.PL Go.Proofs.Ythhkkhnjkoacnaa.PS Go.Proofs.Ythhkkhnjkoacnaa.PT Go.Proofs.Ythhkkhnjkoacnaa.PU Go.Proofs.Ythhkkhnjkoacnaa.PG Go.Proofs.Ythhkkhnjkoacnaa.PQ Go.Proofs.Ythhkkhnjkoacnaa.PW Go.Proofs.Ythhkkhnjkoacnaa.PA
set_option linter.unusedVariables false
def itemB (s : ByteArray) : Bool := decide ((s.size : Int) ≤ 60)
def blockB (a b : ByteArray) (l : List ByteArray) : Bool := decide (a.size = 4) && (decide (b.size = 4) && (decide (l.length ≤ 6) && l.all itemB))
theorem goodBlockS (a b : ByteArray) (l : List ByteArray) (hl : l.length ≤ 2000000) : Ev (fun k => spec_GoodBlock.f k a b l) (blockB a b l) := by
 have round : ∀ (r : Bool) i, i < l.length → itemB (tx l i) = true → Ev (fun k => spec_GoodBlock.l0 k l (l.length : Int) ((i + 1 : Nat) : Int) a b l) r → Ev (fun k => spec_GoodBlock.l0 k l (l.length : Int) (i : Int) a b l) r := by
  intro r i hi hq h
  have hq' : ((rdOf ByteArray.empty l (i : Int)).size : Int) ≤ 60 := of_decide_eq_true hq
  refine Ev.step (f := fun k => spec_GoodBlock.l0 k l (l.length : Int) ((i + 1 : Nat) : Int) a b l) (fun k => ?_) h
  simp only [spec_GoodBlock.l0]
  rw [if_pos (by omega), if_pos (by omega), if_pos (by omega), if_neg (by omega), w64 (x := (i : Int) + 1) (by omega) (by omega)]
  rfl
 by_cases h : ∀ i, i < l.length → itemB (tx l i) = true
 ·have ha : l.all itemB = true := (all_at l _).2 h
  refine loop_yes l.length (fun i k => spec_GoodBlock.l0 k l (l.length : Int) (i : Int) a b l) _ _ round ?_ h
  refine Ev.step (f := fun k => if (a.size : Int) = 4 then (if (b.size : Int) = 4 then (some (decide ((l.length : Int) ≤ 6))) else (some false)) else (some false)) (fun k => by simp only [spec_GoodBlock.l0]; rw [if_neg (by omega)]) ?_
  unfold blockB
  rw [ha, Bool.and_true]
  by_cases h1 : a.size = 4
  ·refine ev_pos (by omega) ?_
   rw [decide_eq_true h1, Bool.true_and]
   by_cases h2 : b.size = 4
   ·refine ev_pos (by omega) ?_
    rw [decide_eq_true h2, Bool.true_and]
    by_cases h3 : l.length ≤ 6
    ·rw [decide_eq_true h3]; exact ev_eq (Ev.now _) (decide_eq_true (by omega))
    ·rw [decide_eq_false h3]; exact ev_eq (Ev.now _) (decide_eq_false (by omega))
   ·rw [decide_eq_false h2]; exact ev_neg (by omega) (Ev.now _)
  ·rw [decide_eq_false h1]; exact ev_neg (by omega) (Ev.now _)
 ·have ha : l.all itemB = false := by
   cases e : l.all itemB with
   | false => rfl
   | true => exact absurd ((all_at l _).1 e) h
  refine ev_eq (loop_no l.length (fun i k => spec_GoodBlock.l0 k l (l.length : Int) (i : Int) a b l) _ false round (fun i hi hq => ?_) h) ?_
  ·have hq' : ¬ ((rdOf ByteArray.empty l (i : Int)).size : Int) ≤ 60 := fun h' => hq (decide_eq_true h')
   refine Ev.step (f := fun _ => some false) (fun k => ?_) (Ev.now _)
   simp only [spec_GoodBlock.l0]
   rw [if_pos (by omega), if_pos (by omega), if_pos (by omega), if_pos (by omega)]
  ·unfold blockB; rw [ha]; simp
theorem goodBlockI (a b : ByteArray) (l : List ByteArray) (hl : l.length ≤ 2000000) : Ev (fun k => impl_GoodBlock.f k a b l) (blockB a b l) := by
 unfold impl_GoodBlock.f blockB
 refine ev_const (isDigI a) ?_
 by_cases h1 : a.size = 4
 ·refine ev_pos (decide_eq_true h1) (ev_const (isDigI b) ?_)
  rw [decide_eq_true h1, Bool.true_and]
  by_cases h2 : b.size = 4
  ·refine ev_pos (decide_eq_true h2) ?_
   rw [decide_eq_true h2, Bool.true_and]
   by_cases h3 : l.length ≤ 6
   ·refine ev_pos (by omega) ?_
    rw [decide_eq_true h3, Bool.true_and]
    have e : ∀ s : ByteArray, decide ((s.size : Int) > 60) = !itemB s := by
     intro s
     unfold itemB
     by_cases hs : (s.size : Int) ≤ 60
     ·rw [decide_eq_true hs]; exact decide_eq_false (by omega)
     ·rw [decide_eq_false hs]; exact decide_eq_true (by omega)
    have hc := has_str l slices_IndexFunc_impl_GoodBlock_1.l0 (fun _ s => impl_GoodBlock_1.f s) (fun s => !itemB s) (fun k n i => rfl) (fun x _ => ev_of_eq (by unfold impl_GoodBlock_1.f; rw [e])) (by omega)
    rw [not_any] at hc
    refine ev_eq (ev_bind (f := fun _ t => some (!t)) (g := fun k => slices_ContainsFunc_impl_GoodBlock_1.f k l) hc (Ev.now _)) ?_
    rw [Bool.not_not]
   ·rw [decide_eq_false h3]; exact ev_neg (by omega) (Ev.now _)
  ·rw [decide_eq_false h2]; exact ev_neg (by simp) (Ev.now _)
 ·rw [decide_eq_false h1]; exact ev_neg (by simp) (Ev.now _)
theorem app_assoc (a b c : ByteArray) : a ++ b ++ c = a ++ (b ++ c) := ByteArray.append_assoc
theorem rowFrom_app (l : List ByteArray) : ∀ acc, rowFrom acc l = acc ++ rowM l := by
 induction l with
 | nil => intro acc; exact (ByteArray.append_empty (b := acc)).symm
 | cons s l ih =>
  intro acc
  rw [show rowFrom acc (s :: l) = rowFrom (acc ++ (one (s.size : Int) ++ s)) l from rfl, ih, show rowM (s :: l) = rowFrom (⟨#[]⟩ ++ (one (s.size : Int) ++ s)) l from rfl, ih]
  rw [show (⟨#[]⟩ : ByteArray) ++ (one (s.size : Int) ++ s) = one (s.size : Int) ++ s from ByteArray.empty_append, app_assoc]
theorem total_items (l : List ByteArray) (h : l.all itemB = true) : total l ≤ 61 * l.length := by
 induction l with
 | nil => simp [total, szL]
 | cons s l ih =>
  simp only [List.all_cons, Bool.and_eq_true] at h
  have h1 : (s.size : Int) ≤ 60 := of_decide_eq_true h.1
  have := ih h.2
  simp only [total, szL, List.length_cons] at this ⊢
  omega
def blockM (a b : ByteArray) (l : List ByteArray) : ByteArray := a ++ b ++ rowM l
theorem blockB_facts {a b : ByteArray} {l : List ByteArray} (h : blockB a b l = true) : a.size = 4 ∧ b.size = 4 ∧ l.length ≤ 6 ∧ total l ≤ 366 := by
 unfold blockB at h
 simp only [Bool.and_eq_true, decide_eq_true_eq] at h
 have := total_items l h.2.2.2
 exact ⟨h.1, h.2.1, h.2.2.1, by omega⟩
theorem blockM_size {a b : ByteArray} {l : List ByteArray} (h : blockB a b l = true) : (blockM a b l).size ≤ 374 := by
 obtain ⟨h1, h2, h3, h4⟩ := blockB_facts h
 unfold blockM
 rw [app_size, app_size, rowM_size]; omega
theorem bytesBS (a b : ByteArray) (l : List ByteArray) (h : blockB a b l = true) : Ev (fun k => spec_l16Bytes.f k a b l) (blockM a b l) := by
 obtain ⟨h1, h2, h3, h4⟩ := blockB_facts h
 exact ev_pos (by omega) (ev_bind (rowS l (by omega)) (ev_pos (by rw [app_size, rowM_size]; omega) (Ev.now _)))
theorem bytesBI (a b : ByteArray) (l : List ByteArray) (h : blockB a b l = true) : Ev (fun k => impl_Block_bytes.f k a b l) (blockM a b l) := by
 obtain ⟨h1, h2, h3, h4⟩ := blockB_facts h
 refine ev_pos (by omega) ?_
 have key : ∀ (d i : Nat) (acc : ByteArray), i + d = l.length → acc.size + total (l.drop i) ≤ 2000 → Ev (fun k => impl_Block_bytes.l0 k acc l (l.length : Int) (i : Int)) (rowFrom acc (l.drop i)) := by
  intro d
  induction d with
  | zero =>
   intro i acc hi _
   rw [List.drop_eq_nil_of_le (by omega)]
   refine Ev.step (f := fun _ => some acc) (fun k => ?_) (Ev.now _)
   simp only [impl_Block_bytes.l0]; rw [if_neg (by omega)]
  | succ d ih =>
   intro i acc hi ha
   have hlt : i < l.length := by omega
   rw [List.drop_eq_getElem_cons hlt] at ha ⊢
   have e : total (l[i] :: l.drop (i + 1)) = 1 + l[i].size + total (l.drop (i + 1)) := by simp only [total, szL, List.length_cons]; omega
   rw [e] at ha
   refine Ev.step (f := fun k => impl_Block_bytes.l0 k (acc ++ (one (l[i].size : Int) ++ l[i])) l (l.length : Int) ((i + 1 : Nat) : Int)) (fun k => ?_) ?_
   ·simp only [impl_Block_bytes.l0]
    rw [if_pos (by omega), if_pos (by omega), if_pos (by omega), rdOf_at _ _ _ hlt, oneI, w64 (x := (i : Int) + 1) (by omega) (by omega)]
    simp only [Option.bind_some]
    rw [if_pos (by rw [one_size]; omega), if_pos (by rw [app_size, one_size]; omega)]
    rfl
   ·exact ih (i + 1) _ (by omega) (by rw [app_size, app_size, one_size]; omega)
 have := key l.length 0 (a ++ b) (by omega) (by rw [List.drop_zero, app_size]; omega)
 rw [List.drop_zero, rowFrom_app] at this
 exact this
theorem k104 : Kd_ 104 := ⟨by decide, by decide⟩
theorem digBS (a b : ByteArray) (l : List ByteArray) (h : blockB a b l = true) : Ev (fun k => spec_l16Digest.f k a b l) (dig 104 (blockM a b l)) := by
 have := blockM_size h
 exact ev_bind (bytesBS a b l h) (ev_bind (digS 104 k104 _ (by omega)) (Ev.now _))
theorem digBI (a b : ByteArray) (l : List ByteArray) (h : blockB a b l = true) : Ev (fun k => impl_Block_digest.f k a b l) (dig 104 (blockM a b l)) := by
 have := blockM_size h
 exact ev_bind (bytesBI a b l h) (ev_bind (digI 104 k104 _ (by omega)) (Ev.now _))
end Go.Proofs.Ythhkkhnjkoacnaa.PX
end
section
namespace Go.Proofs.Ythhkkhnjkoacnaa.PJ
open Go.RowKit Go.Proofs.YthhkkhnjkoacnaaW.PrintWords Go.Proofs.YthhkkhnjkoacnaaW.PrintLast Go.Proofs.YthhkkhnjkoacnaaW.PrintMore Go.Proofs.Ythhkkhnjkoacnaa.PB Go.Proofs.Ythhkkhnjkoacnaa.PD Go.Proofs.Ythhkkhnjkoacnaa.PK Go.Proofs.Ythhkkhnjkoacnaa.PL Go.Proofs.Ythhkkhnjkoacnaa.PG Go.Proofs.Ythhkkhnjkoacnaa.PQ Go.Proofs.Ythhkkhnjkoacnaa.PW Go.Proofs.Ythhkkhnjkoacnaa.PX Go.Proofs.Ythhkkhnjkoacnaa.PA
set_option linter.unusedVariables false
theorem app_list (a b : ByteArray) : (a ++ b).toList = a.toList ++ b.toList := by
 rw [ByteArray.toList_eq, ByteArray.toList_eq, ByteArray.toList_eq, ByteArray.data_append, Array.toList_append]
theorem one_list (n : Nat) (h : n ≤ 255) : (one (n : Int)).toList = [UInt8.ofNat n] := by
 unfold one
 rw [ByteArray.toList_eq, strOfNums_data, show (n : Int) % 256 = (n : Int) by omega]
 rfl
theorem rowM_cons (s : ByteArray) (l : List ByteArray) : rowM (s :: l) = one (s.size : Int) ++ s ++ rowM l := by
 rw [show rowM (s :: l) = rowFrom (⟨#[]⟩ ++ (one (s.size : Int) ++ s)) l from rfl, rowFrom_app, show (⟨#[]⟩ : ByteArray) ++ (one (s.size : Int) ++ s) = one (s.size : Int) ++ s from ByteArray.empty_append]
end Go.Proofs.Ythhkkhnjkoacnaa.PJ
end
section
namespace Go.Proofs.Ythhkkhnjkoacnaa.QN
open Go.RowKit Go.Proofs.YthhkkhnjkoacnaaW.PrintWords Go.Proofs.YthhkkhnjkoacnaaW.PrintLast Go.Proofs.YthhkkhnjkoacnaaW.PrintMore Go.Proofs.Ythhkkhnjkoacnaa.PB Go.Proofs.Ythhkkhnjkoacnaa.PD Go.Proofs.Ythhkkhnjkoacnaa.PL Go.Proofs.Ythhkkhnjkoacnaa.PQ Go.Proofs.Ythhkkhnjkoacnaa.PX Go.Proofs.Ythhkkhnjkoacnaa.PJ Go.Proofs.Ythhkkhnjkoacnaa.PA
set_option linter.unusedVariables false
def ints (l : List UInt8) : List Int := l.map fun b => (b.toNat : Int)
theorem sn_ints (l : List UInt8) : (strOfNums (ints l)).toList = l := by
 rw [ByteArray.toList_eq, strOfNums_data]
 unfold ints
 rw [List.map_map]
 conv => { rhs; rw [← List.map_id l] }
 refine List.map_congr_left (fun b _ => ?_)
 show UInt8.ofNat ((b.toNat : Int)).toNat = b
 simp
def str (l : List UInt8) : ByteArray := strOfNums (ints l)
theorem str_list (l : List UInt8) : (str l).toList = l := sn_ints l
theorem str_of (s : ByteArray) : str s.toList = s := ba_ext (str_list _)
def rowR : Nat → List UInt8 → Option (List ByteArray)
 | _, [] => some []
 | 0, _ :: _ => none
 | n + 1, c :: s => if c.toNat ≤ s.length then (rowR n (s.drop c.toNat)).map fun l => str (s.take c.toNat) :: l else none
theorem rowR_nil (n : Nat) : rowR n [] = some [] := by cases n <;> rfl
theorem rowR_cons (n : Nat) (c : UInt8) (s : List UInt8) : rowR (n + 1) (c :: s) = if c.toNat ≤ s.length then (rowR n (s.drop c.toNat)).map fun l => str (s.take c.toNat) :: l else none := rfl
theorem rowM_nil : rowM [] = ⟨#[]⟩ := rfl
theorem nil_list : (⟨#[]⟩ : ByteArray).toList = [] := by rw [ByteArray.toList_eq]
theorem rowM_list (s : ByteArray) (l : List ByteArray) (h : s.size ≤ 255) : (rowM (s :: l)).toList = UInt8.ofNat s.size :: (s.toList ++ (rowM l).toList) := by
 rw [rowM_cons, app_list, app_list, one_list _ h]; rfl
theorem rowR_cat : ∀ (l : List ByteArray) (n : Nat), l.length ≤ n → (∀ s ∈ l, s.size ≤ 255) → rowR n (rowM l).toList = some l := by
 intro l
 induction l with
 | nil => intro n _ _; rw [rowM_nil, nil_list, rowR_nil]
 | cons s l ih =>
  intro n hn hl
  have hs := hl s List.mem_cons_self
  cases n with
  | zero => simp at hn
  | succ n =>
   have e : (UInt8.ofNat s.size).toNat = s.toList.length := by rw [UInt8.toNat_ofNat', size_toList]; omega
   rw [rowM_list s l hs, rowR_cons, e, if_pos (by rw [List.length_append]; omega), List.drop_left, List.take_left, ih n (by simp only [List.length_cons] at hn; omega) (fun x hx => hl x (List.mem_cons_of_mem _ hx)), str_of]
   rfl
theorem rowR_back : ∀ (n : Nat) (s : List UInt8) (l : List ByteArray), rowR n s = some l → (∀ x ∈ l, x.size ≤ 255) ∧ s = (rowM l).toList := by
 intro n
 induction n with
 | zero => intro s l h; cases s with
  | nil => injection h with h; subst h; exact ⟨fun x hx => (by cases hx), by rw [rowM_nil, nil_list]⟩
  | cons c s => cases h
 | succ n ih => intro s l h; cases s with
  | nil => injection h with h; subst h; exact ⟨fun x hx => (by cases hx), by rw [rowM_nil, nil_list]⟩
  | cons c s =>
   rw [rowR_cons] at h
   by_cases hc : c.toNat ≤ s.length
   ·rw [if_pos hc] at h
    obtain ⟨m, h1, h2⟩ := Option.map_eq_some_iff.1 h
    subst h2
    obtain ⟨i1, i2⟩ := ih _ m h1
    have hz : (str (s.take c.toNat)).size = c.toNat := by rw [← size_toList, str_list, List.length_take]; omega
    have hc2 := UInt8.toNat_lt c
    refine ⟨fun x hx => ?_, ?_⟩
    ·rcases List.mem_cons.1 hx with rfl | hx
     ·omega
     ·exact i1 x hx
    ·rw [rowM_list _ _ (by omega), hz, str_list, ← i2, List.take_append_drop]
     congr 1
     apply UInt8.toNat_inj.1
     rw [UInt8.toNat_ofNat']; omega
   ·rw [if_neg hc] at h; cases h
end Go.Proofs.Ythhkkhnjkoacnaa.QN
end
section
namespace Go.Proofs.Ythhkkhnjkoacnaa.PY
open Go.RowKit Go.Proofs.YthhkkhnjkoacnaaW.PrintWords Go.Proofs.YthhkkhnjkoacnaaW.PrintLast Go.Proofs.YthhkkhnjkoacnaaW.PrintMore Go.Proofs.Ythhkkhnjkoacnaa.PB Go.Proofs.Ythhkkhnjkoacnaa.PD Go.Proofs.Ythhkkhnjkoacnaa.PK Go.Proofs.Ythhkkhnjkoacnaa.PL Go.Proofs.Ythhkkhnjkoacnaa.PS Go.Proofs.Ythhkkhnjkoacnaa.PT Go.Proofs.Ythhkkhnjkoacnaa.PU Go.Proofs.Ythhkkhnjkoacnaa.PG Go.Proofs.Ythhkkhnjkoacnaa.PQ Go.Proofs.Ythhkkhnjkoacnaa.PW Go.Proofs.Ythhkkhnjkoacnaa.PX Go.Proofs.Ythhkkhnjkoacnaa.PA
set_option linter.unusedVariables false
theorem rdI_at (l : List S89) (i : Nat) (h : i < l.length) : rd_T89 l (i : Int) = l[i] := by
 simp [rd_T89, List.getD_eq_getElem?_getD, List.getElem?_eq_getElem h]
def blkB (x : S89) : Bool := blockB x.f0 x.f1 x.f2
def blkM (x : S89) : ByteArray := dig 104 (blockM x.f0 x.f1 x.f2)
def Sm (x : S89) : Prop := x.f2.length ≤ 2000000
def chainOk (l : List S89) : Bool := decide ((l.length : Int) ≤ 12) && l.all blkB
theorem allS (l : List S89) (hl : l.length ≤ 2000000) (hs : ∀ x ∈ l, Sm x) : Ev (fun k => spec_l16All.f k l) (chainOk l) := by
 have key : ∀ (d i : Nat), i + d = l.length → Ev (fun k => spec_l16All.l0 k l l (l.length : Int) (i : Int)) (decide ((l.length : Int) ≤ 12) && (l.drop i).all blkB) := by
  intro d
  induction d with
  | zero =>
   intro i hi
   rw [List.drop_eq_nil_of_le (by omega), List.all_nil, Bool.and_true]
   refine Ev.step (f := fun _ => some (decide ((l.length : Int) ≤ 12))) (fun k => ?_) (Ev.now _)
   simp only [spec_l16All.l0]; rw [if_neg (by omega)]
  | succ d ih =>
   intro i hi
   have hlt : i < l.length := by omega
   rw [List.drop_eq_getElem_cons hlt, List.all_cons]
   refine Ev.step (f := fun k => (spec_GoodBlock.f k l[i].f0 l[i].f1 l[i].f2).bind fun t => if t = true then spec_l16All.l0 k l l (l.length : Int) ((i + 1 : Nat) : Int) else some false) (fun k => ?_) ?_
   ·simp only [spec_l16All.l0]
    rw [if_pos (by omega), if_pos (by omega), if_pos (by omega), rdI_at l i hlt, w64 (x := (i : Int) + 1) (by omega) (by omega)]
    rfl
   ·refine ev_bind (goodBlockS _ _ _ (hs _ (List.getElem_mem hlt))) ?_
    show Ev _ (decide ((l.length : Int) ≤ 12) && (blkB l[i] && _))
    unfold blkB
    cases hb : blockB l[i].f0 l[i].f1 l[i].f2 with
    | true => rw [Bool.true_and]; exact ev_pos rfl (ih (i + 1) (by omega))
    | false => rw [Bool.false_and, Bool.and_false]; exact ev_neg (by simp) (Ev.now _)
 exact key l.length 0 (by omega)
theorem allI (l : List S89) (hl : l.length ≤ 2000000) (hs : ∀ x ∈ l, Sm x) : Ev (fun k => impl_areBlocks.f k l) (chainOk l) := by
 unfold chainOk impl_areBlocks.f
 by_cases h : (l.length : Int) ≤ 12
 ·refine ev_pos h ?_
  rw [decide_eq_true h, Bool.true_and]
  obtain ⟨r, hr, e⟩ := idx_any l rd_T89 (fun i h => rdI_at l i h) slices_IndexFunc_impl_areBlocks_1.l0 (fun k x => impl_areBlocks_1.f k x.f0 x.f1 x.f2) (fun x => !blkB x) (fun k n i => rfl) (fun x hx => ev_bind (f := fun _ t => some (!t)) (goodBlockI _ _ _ (hs x hx)) (Ev.now _)) (by omega)
  have hc : Ev (fun k => slices_ContainsFunc_impl_areBlocks_1.f k l) (l.any fun x => !blkB x) := by
   rw [← e]
   exact ev_bind (f := fun _ t => some (decide (t ≥ 0))) hr (Ev.now _)
  refine ev_eq (ev_bind (f := fun _ t => some (!t)) hc (Ev.now _)) ?_
  rw [not_any, Bool.not_not]
 ·refine ev_neg h ?_
  rw [decide_eq_false h]
  exact Ev.now _
theorem chain_len {l : List S89} (h : chainOk l = true) : l.length ≤ 12 := by
 unfold chainOk at h
 simp only [Bool.and_eq_true, decide_eq_true_eq] at h
 omega
theorem chain_at {l : List S89} (h : chainOk l = true) (i : Nat) (hi : i < l.length) : blkB l[i] = true := by
 unfold chainOk at h
 simp only [Bool.and_eq_true] at h
 exact List.all_eq_true.1 h.2 _ (List.getElem_mem hi)
def lastM (l : List S89) : ByteArray := if l.length = 0 then ⟨#[0, 0, 0, 0]⟩ else blkM (rd_T89 l ((l.length - 1 : Nat) : Int))
theorem lastM_at (l : List S89) (n : Nat) (hl : l.length = n + 1) : lastM l = blkM (l[n]'(by omega)) := by
 unfold lastM
 rw [if_neg (by omega), show l.length - 1 = n by omega, rdI_at l n (by omega)]
theorem last_two (l : List S89) (h : ∀ x ∈ l, blkB x = true) (hl : l.length ≤ 2000000) : Ev (fun k => spec_l16Last.f k l) (lastM l) ∧ Ev (fun k => impl_lastDigest.f k l) (lastM l) := by
 by_cases h0 : l.length = 0
 ·unfold lastM
  rw [if_pos h0]
  exact ⟨ev_pos (by omega) (Ev.now _), ev_pos (by omega) (Ev.now _)⟩
 ·obtain ⟨n, hn⟩ : ∃ n, l.length = n + 1 := ⟨l.length - 1, by omega⟩
  have hb : blockB (l[n]'(by omega)).f0 (l[n]'(by omega)).f1 (l[n]'(by omega)).f2 = true := h _ (List.getElem_mem (by omega))
  have e : wrap64 ((l.length : Int) - 1) = (n : Int) := by rw [w64 (by omega) (by omega)]; omega
  rw [lastM_at l n hn]
  constructor
  ·unfold spec_l16Last.f
   rw [e, rdI_at l n (by omega)]
   exact ev_neg (by omega) (ev_pos (by omega) (ev_pos (by omega) (ev_bind (digBS _ _ _ hb) (Ev.now _))))
  ·unfold impl_lastDigest.f
   rw [e, rdI_at l n (by omega)]
   exact ev_neg (by omega) (ev_pos (by omega) (ev_pos (by omega) (ev_bind (digBI _ _ _ hb) (Ev.now _))))
theorem goodChain_two (l : List S89) (hl : l.length ≤ 2000000) (hs : ∀ x ∈ l, Sm x) : ∃ r, Ev (fun k => spec_GoodChain.f k l) r ∧ Ev (fun k => impl_GoodChain.f k l) r := by
 have hS := allS l hl hs
 have hI := allI l hl hs
 cases h : chainOk l with
 | false =>
  rw [h] at hS hI
  exact ⟨false, ev_bind hS (ev_neg (by simp) (Ev.now _)), ev_bind hI (ev_neg (by simp) (Ev.now _))⟩
 | true =>
  rw [h] at hS hI
  have key : ∀ (d i : Nat), i + d = l.length → ∃ r, Ev (fun k => spec_GoodChain.l0 k l l (l.length : Int) (i : Int)) r ∧ Ev (fun k => impl_GoodChain.l0 k l l (l.length : Int) (i : Int)) r := by
   intro d
   induction d with
   | zero =>
    intro i hi
    exact ⟨true, Ev.step (f := fun _ => some true) (fun k => by simp only [spec_GoodChain.l0]; rw [if_neg (by omega)]) (Ev.now _), Ev.step (f := fun _ => some true) (fun k => by simp only [impl_GoodChain.l0]; rw [if_neg (by omega)]) (Ev.now _)⟩
   | succ d ih =>
    intro i hi
    have hlt : i < l.length := by omega
    obtain ⟨r, h1, h2⟩ := ih (i + 1) (by omega)
    have ht : ∀ x ∈ l.take i, blkB x = true := fun x hx => by
     obtain ⟨j, hj, e⟩ := List.getElem_of_mem (List.mem_of_mem_take hx)
     rw [← e]; exact chain_at h j hj
    obtain ⟨t1, t2⟩ := last_two (l.take i) ht (by rw [List.length_take]; omega)
    have s1 : ∀ {r : Bool}, Ev (fun k => (spec_l16Last.f k (l.take i)).bind fun t => if l[i].f0.toList = t.toList then spec_GoodChain.l0 k l l (l.length : Int) ((i + 1 : Nat) : Int) else some false) r → Ev (fun k => spec_GoodChain.l0 k l l (l.length : Int) (i : Int)) r := by
     intro r hr
     refine Ev.step (fun k => ?_) hr
     simp only [spec_GoodChain.l0]
     rw [if_pos (by omega), if_pos (by omega), if_pos (by omega), if_pos (by omega), rdI_at l i hlt, w64 (x := (i : Int) + 1) (by omega) (by omega)]
     rfl
    have s2 : ∀ {r : Bool}, Ev (fun k => (impl_lastDigest.f k (l.take i)).bind fun t => if l[i].f0.toList = t.toList then impl_GoodChain.l0 k l l (l.length : Int) ((i + 1 : Nat) : Int) else some false) r → Ev (fun k => impl_GoodChain.l0 k l l (l.length : Int) (i : Int)) r := by
     intro r hr
     refine Ev.step (fun k => ?_) hr
     simp only [impl_GoodChain.l0]
     rw [if_pos (by omega), if_pos (by omega), if_pos (by omega), if_pos (by omega), rdI_at l i hlt, w64 (x := (i : Int) + 1) (by omega) (by omega)]
     rfl
    by_cases hc : l[i].f0.toList = (lastM (l.take i)).toList
    ·exact ⟨r, s1 (ev_bind t1 (ev_pos hc h1)), s2 (ev_bind t2 (ev_pos hc h2))⟩
    ·exact ⟨false, s1 (ev_bind t1 (ev_neg hc (Ev.now _))), s2 (ev_bind t2 (ev_neg hc (Ev.now _)))⟩
  obtain ⟨r, h1, h2⟩ := key l.length 0 (by omega)
  exact ⟨r, ev_bind hS (ev_pos rfl h1), ev_bind hI (ev_pos rfl h2)⟩
theorem chain_mem {l : List S89} (hc : chainOk l = true) : ∀ x ∈ l, blkB x = true := fun x hx => by
 obtain ⟨j, hj, e⟩ := List.getElem_of_mem hx
 rw [← e]; exact chain_at hc j hj
end Go.Proofs.Ythhkkhnjkoacnaa.PY
end
section
namespace Go.Proofs.Ythhkkhnjkoacnaa.QA
open Go.RowKit Go.Proofs.YthhkkhnjkoacnaaW.PrintWords Go.Proofs.YthhkkhnjkoacnaaW.PrintLast Go.Proofs.YthhkkhnjkoacnaaW.PrintMore Go.Proofs.Ythhkkhnjkoacnaa.PB Go.Proofs.Ythhkkhnjkoacnaa.PD Go.Proofs.Ythhkkhnjkoacnaa.PU Go.Proofs.Ythhkkhnjkoacnaa.PL Go.Proofs.Ythhkkhnjkoacnaa.PG Go.Proofs.Ythhkkhnjkoacnaa.PW Go.Proofs.Ythhkkhnjkoacnaa.PX Go.Proofs.Ythhkkhnjkoacnaa.PY Go.Proofs.Ythhkkhnjkoacnaa.PA
set_option linter.unusedVariables false
def zero4 : ByteArray := ⟨#[0, 0, 0, 0]⟩
abbrev bk (l : List S89) (i : Nat) : S89 := rd_T89 l (i : Int)
theorem bk_at (l : List S89) (i : Nat) (h : i < l.length) : bk l i = l[i] := PY.rdI_at l i h
def LinkAt (l : List S89) (i : Nat) : Prop := (i = 0 → (bk l i).f0 = zero4) ∧ (0 < i → (bk l i).f0 = blkM (bk l (i - 1)))
def Linked (l : List S89) : Prop := chainOk l = true ∧ ∀ i, i < l.length → LinkAt l i
theorem lastM_size (l : List S89) : (lastM l).size = 4 := by
 unfold lastM
 split
 ·decide
 ·exact dig_size _ _
theorem lastM_bk (l : List S89) (h : 0 < l.length) : lastM l = blkM (bk l (l.length - 1)) := by
 unfold lastM
 rw [if_neg (by omega)]
theorem lastM_take (l : List S89) (i : Nat) (h : i < l.length) : LinkAt l i ↔ (bk l i).f0 = lastM (l.take i) := by
 unfold LinkAt
 by_cases h0 : i = 0
 ·subst h0
  have : lastM (l.take 0) = zero4 := by unfold lastM; rw [if_pos (by simp)]; rfl
  rw [this]
  exact ⟨fun h => h.1 rfl, fun h => ⟨fun _ => h, fun h => absurd h (by omega)⟩⟩
 ·have e : lastM (l.take i) = blkM (bk l (i - 1)) := by
   rw [lastM_at (l.take i) (i - 1) (by rw [List.length_take]; omega), bk_at l (i - 1) (by omega), List.getElem_take]
  rw [e]
  exact ⟨fun h => h.2 (by omega), fun h => ⟨fun h1 => absurd h1 h0, fun _ => h⟩⟩
theorem goodChainI (l : List S89) (hl : l.length ≤ 2000000) (hs : ∀ x ∈ l, Sm x) : Ev (fun k => impl_GoodChain.f k l) (ch (Linked l)) := by
 have hI := allI l hl hs
 cases h : chainOk l with
 | false =>
  rw [h] at hI
  exact ev_bind hI (ev_neg (by simp) (ev_eq (Ev.now _) (ch_no (fun e => by rw [e.1] at h; cases h)).symm))
 | true =>
  rw [h] at hI
  refine ev_bind hI (ev_pos rfl ?_)
  have one : ∀ {r : Bool} (i : Nat) (hi : i < l.length), Ev (fun k => if l[i].f0.toList = (lastM (l.take i)).toList then impl_GoodChain.l0 k l l (l.length : Int) ((i + 1 : Nat) : Int) else some false) r → Ev (fun k => impl_GoodChain.l0 k l l (l.length : Int) (i : Int)) r := by
   intro r i hi hr
   have ht : ∀ x ∈ l.take i, blkB x = true := fun x hx => by
    obtain ⟨j, hj, e⟩ := List.getElem_of_mem (List.mem_of_mem_take hx)
    rw [← e]; exact chain_at h j hj
   obtain ⟨_, t2⟩ := last_two (l.take i) ht (by rw [List.length_take]; omega)
   refine Ev.step (f := fun k => (impl_lastDigest.f k (l.take i)).bind fun t => if l[i].f0.toList = t.toList then impl_GoodChain.l0 k l l (l.length : Int) ((i + 1 : Nat) : Int) else some false) (fun k => ?_) (ev_bind t2 hr)
   simp only [impl_GoodChain.l0]
   rw [if_pos (by omega), if_pos (by omega), if_pos (by omega), if_pos (by omega), PY.rdI_at l i hi, w64 (x := (i : Int) + 1) (by omega) (by omega)]
   rfl
  have atq : ∀ i (hi : i < l.length), LinkAt l i ↔ l[i].f0.toList = (lastM (l.take i)).toList := by
   intro i hi
   rw [lastM_take l i hi, bk_at l i hi]
   exact ba_iff.symm
  by_cases hA : ∀ i, i < l.length → LinkAt l i
  ·rw [ch_yes (show Linked l from ⟨h, hA⟩)]
   exact loop_yes l.length (fun i k => impl_GoodChain.l0 k l l (l.length : Int) (i : Int)) (fun i => LinkAt l i) true (fun r i hi hq hr => one i hi (ev_pos ((atq i hi).1 hq) hr)) (Ev.step (f := fun _ => some true) (fun k => by simp only [impl_GoodChain.l0]; rw [if_neg (by omega)]) (Ev.now _)) hA
  ·rw [ch_no (fun e : Linked l => hA e.2)]
   exact loop_no l.length (fun i k => impl_GoodChain.l0 k l l (l.length : Int) (i : Int)) (fun i => LinkAt l i) false (fun r i hi hq hr => one i hi (ev_pos ((atq i hi).1 hq) hr)) (fun i hi hq => one i hi (ev_neg (fun e => hq ((atq i hi).2 e)) (Ev.now _))) hA
theorem goodChainS (l : List S89) (hl : l.length ≤ 2000000) (hs : ∀ x ∈ l, Sm x) : Ev (fun k => spec_GoodChain.f k l) (ch (Linked l)) := by
 obtain ⟨r, h1, h2⟩ := goodChain_two l hl hs
 rw [ev_unique (goodChainI l hl hs) h2]
 exact h1
noncomputable def lastDigestM (l : List S89) : ByteArray × Bool := if ch (Linked l) = true then (lastM l, true) else (⟨#[]⟩, false)
theorem lastDigestI (l : List S89) (hl : l.length ≤ 2000000) (hs : ∀ x ∈ l, Sm x) : Ev (fun k => impl_LastDigest.f k l) (lastDigestM l) := by
 unfold lastDigestM
 cases h : ch (Linked l) with
 | true =>
  have hc := ch_true h
  have := goodChainI l hl hs
  rw [h] at this
  exact ev_bind this (ev_pos rfl (ev_bind (last_two l (chain_mem hc.1) hl).2 (Ev.now _)))
 | false =>
  have := goodChainI l hl hs
  rw [h] at this
  exact ev_bind this (ev_neg (by simp) (Ev.now _))
theorem lastDigestS (l : List S89) (hl : l.length ≤ 2000000) (hs : ∀ x ∈ l, Sm x) : Ev (fun k => spec_LastDigest.f k l) (lastDigestM l) := by
 unfold lastDigestM
 cases h : ch (Linked l) with
 | true =>
  have hc := ch_true h
  have := goodChainS l hl hs
  rw [h] at this
  exact ev_bind this (ev_pos rfl (ev_bind (last_two l (chain_mem hc.1) hl).1 (Ev.now _)))
 | false =>
  have := goodChainS l hl hs
  rw [h] at this
  exact ev_bind this (ev_neg (by simp) (Ev.now _))
noncomputable def putBlockM (l : List S89) (a : ByteArray) (m : List ByteArray) : List S89 × Bool :=
 if ch (Linked l) = true then (if blockB zero4 a m = true ∧ l.length ≠ 12 then (l ++ [⟨lastM l, a, m⟩], true) else ([], false)) else ([], false)
theorem blockB_prev {a b c : ByteArray} {m : List ByteArray} (ha : a.size = 4) (hb : b.size = 4) : blockB a c m = blockB b c m := by
 unfold blockB
 rw [ha, hb]
theorem cloneT (m : List ByteArray) (hm : m.length ≤ 2000000) : slices_Clone_string_string.f m = some m := by
 unfold slices_Clone_string_string.f
 simp only [Option.bind_some]
 rw [if_pos (by simp only [List.length_nil]; omega)]
 rfl
theorem ownS (l : List S89) (hl : l.length ≤ 2000000) (hs : ∀ x ∈ l, Sm x) : Ev (fun k => spec_l16Own.f k l) l := by
 have key : ∀ (d i : Nat), i + d = l.length → Ev (fun k => spec_l16Own.l0 k (l.take i) l (l.length : Int) (i : Int)) l := by
  intro d
  induction d with
  | zero =>
   intro i hi
   refine Ev.step (f := fun _ => some (l.take i)) (fun k => by simp only [spec_l16Own.l0]; rw [if_neg (by omega)]) (ev_eq (Ev.now _) ?_)
   exact List.take_of_length_le (by omega)
  | succ d ih =>
   intro i hi
   have hlt : i < l.length := by omega
   have hsm : l[i].f2.length ≤ 2000000 := hs _ (List.getElem_mem hlt)
   have e : l.take i ++ [(⟨l[i].f0, l[i].f1, [] ++ l[i].f2⟩ : S89)] = l.take (i + 1) := by
    rw [List.take_succ_eq_append_getElem hlt]
    rfl
   refine Ev.step (f := fun k => spec_l16Own.l0 k (l.take (i + 1)) l (l.length : Int) ((i + 1 : Nat) : Int)) (fun k => ?_) (ih (i + 1) (by omega))
   simp only [spec_l16Own.l0]
   rw [if_pos (by omega), if_pos (by omega), if_pos (by omega), PY.rdI_at l i hlt]
   simp only [Option.bind_some]
   rw [if_pos (by simp only [List.length_nil]; omega), if_pos (by rw [List.length_take]; omega), w64 (x := (i : Int) + 1) (by omega) (by omega), e]
   rfl
 exact key l.length 0 (by omega)
theorem putBlockS (l : List S89) (a : ByteArray) (m : List ByteArray) (hl : l.length ≤ 2000000) (hs : ∀ x ∈ l, Sm x) (hm : m.length ≤ 2000000) : Ev (fun k => spec_PutBlock.f k l a m) (putBlockM l a m) := by
 have hg := goodChainS l hl hs
 have hb := goodBlockS ⟨#[0, 0, 0, 0]⟩ a m hm
 have no : Ev (fun k => spec_PutBlock.j0 k l true ⟨#[0, 0, 0, 0]⟩ a m) ([], false) := Ev.step (f := fun _ => some ([], false)) (fun k => by simp only [spec_PutBlock.j0]; rw [if_pos trivial]) (Ev.now _)
 unfold putBlockM
 refine ev_const (a := []) rfl (ev_pos (by simp only [List.length_nil]; omega) (ev_const (a := m) rfl (ev_bind hg ?_)))
 cases h : ch (Linked l) with
 | false => exact ev_neg (by simp) no
 | true =>
  have hc := ch_true h
  refine ev_pos rfl (ev_bind hb ?_)
  cases h2 : blockB ⟨#[0, 0, 0, 0]⟩ a m with
  | false =>
   rw [if_pos rfl, if_neg (fun e => by rw [show zero4 = ⟨#[0, 0, 0, 0]⟩ from rfl, h2] at e; cases e.1)]
   exact ev_neg (by simp) no
  | true =>
   refine ev_pos rfl ?_
   by_cases h3 : l.length = 12
   ·rw [if_pos rfl, if_neg (fun e => e.2 h3), show ((l.length : Int) == 12) = true from beq_iff_eq.2 (by omega)]
    exact no
   ·rw [if_pos rfl, if_pos ⟨h2, h3⟩, show ((l.length : Int) == 12) = false from beq_eq_false_iff_ne.2 (by omega)]
    refine Ev.step (f := fun k => _) (fun k => by simp only [spec_PutBlock.j0]; rfl) ?_
    have hn := chain_len hc.1
    exact ev_neg (by simp) (ev_bind (last_two l (chain_mem hc.1) hl).1 (ev_bind (ownS l hl hs) (ev_const rfl (ev_pos (by simp only [List.length_cons, List.length_nil]; omega) (Ev.now _)))))
theorem putBlockI (l : List S89) (a : ByteArray) (m : List ByteArray) (hl : l.length ≤ 2000000) (hs : ∀ x ∈ l, Sm x) (hm : m.length ≤ 2000000) : Ev (fun k => impl_PutBlock.f k l a m) (putBlockM l a m) := by
 have hg := goodChainI l hl hs
 have no : Ev (fun k => impl_PutBlock.j0 k l a m true) ([], false) := Ev.step (f := fun _ => some ([], false)) (fun k => by simp only [impl_PutBlock.j0]; rw [if_pos trivial]) (Ev.now _)
 unfold putBlockM
 refine ev_bind hg ?_
 cases h : ch (Linked l) with
 | false => exact ev_neg (by simp) no
 | true =>
  have hc := ch_true h
  refine ev_pos rfl ?_
  by_cases h3 : l.length = 12
  ·rw [if_pos rfl, if_neg (fun e => e.2 h3), show ((l.length : Int) == 12) = true from beq_iff_eq.2 (by omega)]
   exact no
  ·rw [show ((l.length : Int) == 12) = false from beq_eq_false_iff_ne.2 (by omega), if_pos rfl]
   refine Ev.step (f := fun k => _) (fun k => by simp only [impl_PutBlock.j0]; rfl) ?_
   have hb := goodBlockI (lastM l) a m hm
   rw [blockB_prev (lastM_size l) (show zero4.size = 4 from rfl)] at hb
   refine ev_neg (by simp) (ev_bind (last_two l (chain_mem hc.1) hl).2 (ev_bind hb ?_))
   cases h2 : blockB zero4 a m with
   | false => rw [if_neg (fun e => by cases e.1)]; exact ev_neg (by simp) (Ev.now _)
   | true =>
    rw [if_pos ⟨rfl, h3⟩]
    refine ev_pos rfl ?_
    have cp : ∀ (p q : ByteArray) (r : List ByteArray), r.length ≤ 2000000 → impl_Block_copied.f p q r = some (p, q, r) := by
     intro p q r hr
     unfold impl_Block_copied.f
     rw [cloneT r hr]
     rfl
    have hn := chain_len hc.1
    have key : ∀ (d i : Nat), i + d = l.length → Ev (fun k => impl_PutBlock.l0 k (l.take i) l (l.length : Int) (i : Int) (lastM l) a m) (l ++ [⟨lastM l, a, m⟩], true) := by
     intro d
     induction d with
     | zero =>
      intro i hi
      refine Ev.step (f := fun _ => some (l ++ [⟨lastM l, a, m⟩], true)) (fun k => ?_) (Ev.now _)
      simp only [impl_PutBlock.l0]
      rw [if_neg (by omega), cp _ _ _ hm]
      simp only [Option.bind_some]
      rw [List.take_of_length_le (by omega), if_pos (by omega)]
     | succ d ih =>
      intro i hi
      have hlt : i < l.length := by omega
      have e : l.take i ++ [(⟨l[i].f0, l[i].f1, l[i].f2⟩ : S89)] = l.take (i + 1) := by
       rw [List.take_succ_eq_append_getElem hlt]
      refine Ev.step (f := fun k => impl_PutBlock.l0 k (l.take (i + 1)) l (l.length : Int) ((i + 1 : Nat) : Int) (lastM l) a m) (fun k => ?_) (ih (i + 1) (by omega))
      simp only [impl_PutBlock.l0]
      rw [if_pos (by omega), if_pos (by omega), if_pos (by omega), PY.rdI_at l i hlt, cp _ _ _ (hs _ (List.getElem_mem hlt))]
      simp only [Option.bind_some]
      rw [if_pos (by rw [List.length_take]; omega), w64 (x := (i : Int) + 1) (by omega) (by omega), e]
      rfl
    exact key l.length 0 (by omega)
end Go.Proofs.Ythhkkhnjkoacnaa.QA
end
section
namespace Go.Proofs.Ythhkkhnjkoacnaa.PC
open Go.RowKit Go.Proofs.YthhkkhnjkoacnaaW.PrintWords Go.Proofs.YthhkkhnjkoacnaaW.PrintLast Go.Proofs.YthhkkhnjkoacnaaW.PrintMore Go.Proofs.Ythhkkhnjkoacnaa.PB Go.Proofs.Ythhkkhnjkoacnaa.PL Go.Proofs.Ythhkkhnjkoacnaa.PA
set_option linter.unusedVariables false
def Bys (c : List Int) : Prop := ∀ x ∈ c, 0 ≤ x ∧ x ≤ 255
theorem code_of (c : List Int) (h : ∀ x ∈ c, (Lit.int .u8 x).wf = true) : Bys c := by
 intro x hx
 have := h x hx
 simp [Lit.wf] at this
 have e1 : IntKind.u8.min = 0 := rfl
 have e2 : IntKind.u8.max = 255 := rfl
 rw [e1, e2] at this
 omega
theorem code_at {c : List Int} (h : Bys c) (i : Int) : 0 ≤ rd c i ∧ rd c i ≤ 255 := by
 unfold rd
 rw [List.getD_eq_getElem?_getD]
 cases e : c[i.toNat]? with
 | none => simp
 | some x => exact h x (List.mem_of_getElem? e)
theorem wrap_u64 (n : Int) : IntKind.u64.wrap n = n % 18446744073709551616 := by simp [IntKind.wrap, IntKind.bits, IntKind.signed]
theorem and255 (x : Int) (h0 : 0 ≤ x) (h1 : x < 16777216) : 0 ≤ wrap64 (Go.bits .and .u64 x 255) ∧ wrap64 (Go.bits .and .u64 x 255) ≤ 255 := by
 have h := Go.bits_mask .u64 24 (by decide) (fun n a b => by rw [wrap_u64]; omega) 8 (by decide) x h0 (by omega)
 have e : ((2 : Int) ^ 8 - 1) = 255 := by decide
 rw [e] at h
 rw [h, w64 (by omega) (by omega)]
 omega
def Drawn {α : Type} (i : Int) (K : Int) (o : Option (α × Int × Int)) (P : α → Prop) : Prop := ∃ v i' s', o = some (v, i', s') ∧ P v ∧ i ≤ i' ∧ i' ≤ i + K
theorem next_d {c : List Int} (hc : Bys c) (i s : Int) (h0 : 0 ≤ i) (h1 : i ≤ 1000000000000) : Drawn i 1 (spec_l1Cur_next.f c i s) (fun v => 0 ≤ v ∧ v ≤ 255) := by
 have e : wrap64 (i + 1) = i + 1 := w64 (by omega) (by omega)
 have hr := code_at hc i
 have hv : wrap64 (rd c i) = rd c i := w64 (by omega) (by omega)
 unfold spec_l1Cur_next.f
 rw [e]
 by_cases hi : i < (c.length : Int)
 ·rw [if_pos hi, if_pos h0, if_pos (by omega)]
  exact ⟨_, _, _, rfl, by rw [hv]; exact hr, by omega, by omega⟩
 ·rw [if_neg hi, if_neg (by omega)]
  refine ⟨_, _, _, rfl, and255 _ ?_ ?_, by omega, by omega⟩
  ·rw [wrap_u64]; omega
  ·rw [wrap_u64]; omega
theorem pick_d {c : List Int} (hc : Bys c) (i s n : Int) (h0 : 0 ≤ i) (h1 : i ≤ 100000000000) (hn : n ≤ 1000000000) : Drawn i 2 (spec_l1Cur_pick.f c i s n) (fun v => 0 ≤ v ∧ (v < n ∨ v = 0)) := by
 unfold spec_l1Cur_pick.f
 by_cases c1 : n ≤ 1
 ·rw [if_pos c1]
  exact ⟨0, i, s, rfl, ⟨by omega, Or.inr rfl⟩, by omega, by omega⟩
 ·rw [if_neg c1]
  obtain ⟨v, i', s', e, hv, hi1, hi2⟩ := next_d hc i s h0 (by omega)
  rw [e]
  simp only [Option.bind_some]
  by_cases c2 : n > 200
  ·rw [if_pos c2]
   obtain ⟨v2, i2, s2, e2, hv2, hi3, hi4⟩ := next_d hc i' s' (by omega) (by omega)
   rw [e2]
   simp only [Option.bind_some]
   rw [if_neg (by omega), w64 (x := v * 256) (by omega) (by omega), w64 (x := v * 256 + v2) (by omega) (by omega), Int.tmod_eq_emod_of_nonneg (by omega)]
   exact ⟨_, _, _, rfl, ⟨Int.emod_nonneg _ (by omega), Or.inl (Int.emod_lt_of_pos _ (by omega))⟩, by omega, by omega⟩
  ·rw [if_neg c2, if_neg (by omega), Int.tmod_eq_emod_of_nonneg (by omega)]
   exact ⟨_, _, _, rfl, ⟨Int.emod_nonneg _ (by omega), Or.inl (Int.emod_lt_of_pos _ (by omega))⟩, by omega, by omega⟩
theorem of_d {c : List Int} (hc : Bys c) (i s : Int) (l : List ByteArray) (h0 : 0 ≤ i) (h1 : i ≤ 100000000000) (hl : 1 ≤ l.length ∧ l.length ≤ 1000000000) : Drawn i 2 (spec_l1Cur_of.f c i s l) (fun v => v ∈ l) := by
 obtain ⟨v, i', s', e, hv, hi1, hi2⟩ := pick_d hc i s (l.length : Int) h0 h1 (by omega)
 unfold spec_l1Cur_of.f
 rw [e]
 simp only [Option.bind_some]
 rw [if_pos hv.1, if_pos (by omega)]
 refine ⟨_, _, _, rfl, ?_, hi1, hi2⟩
 obtain ⟨n, rfl⟩ := Int.eq_ofNat_of_zero_le hv.1
 have hn : n < l.length := by omega
 rw [rdOf_at _ _ _ hn]
 exact List.getElem_mem hn
theorem one_d {c : List Int} (hc : Bys c) (i s n : Int) (h0 : 0 ≤ i) (h1 : i ≤ 100000000000) (hn : n ≤ 1000000000) : Drawn i 2 (spec_l1Cur_one.f c i s n) (fun _ => True) := by
 obtain ⟨v, i', s', e, hv, hi1, hi2⟩ := pick_d hc i s n h0 h1 hn
 unfold spec_l1Cur_one.f
 rw [e]
 exact ⟨_, _, _, rfl, trivial, hi1, hi2⟩
def DrawnE {α : Type} (i : Int) (K : Int) (f : Nat → Option (α × Int × Int)) (P : α → Prop) : Prop := ∃ v i' s', Ev f (v, i', s') ∧ P v ∧ i ≤ i' ∧ i' ≤ i + K
end Go.Proofs.Ythhkkhnjkoacnaa.PC
end
section
namespace Go.Proofs.Ythhkkhnjkoacnaa.QB
open Go.RowKit Go.Proofs.YthhkkhnjkoacnaaW.PrintWords Go.Proofs.YthhkkhnjkoacnaaW.PrintLast Go.Proofs.YthhkkhnjkoacnaaW.PrintMore Go.Proofs.Ythhkkhnjkoacnaa.PB Go.Proofs.Ythhkkhnjkoacnaa.PL Go.Proofs.Ythhkkhnjkoacnaa.PC Go.Proofs.Ythhkkhnjkoacnaa.PW Go.Proofs.Ythhkkhnjkoacnaa.PX Go.Proofs.Ythhkkhnjkoacnaa.PY Go.Proofs.Ythhkkhnjkoacnaa.QA Go.Proofs.Ythhkkhnjkoacnaa.PA
set_option linter.unusedVariables false
theorem items16_d {c : List Int} (hc : Bys c) (i s : Int) (h0 : 0 ≤ i) (h1 : i ≤ 10000000000) : DrawnE i 100 (fun k => spec_l1Cur_items16.f k c i s) (fun l => l.length ≤ 1000) := by
 have loop : ∀ (d : Nat) (l : List ByteArray) (i s : Int), l.length + d ≤ 1000 → 0 ≤ i → i + 2 * (d : Int) ≤ 20000000000 → ∃ l' i' s', Ev (fun k => spec_l1Cur_items16.l0 k l (d : Int) c i s) (l', i', s') ∧ l'.length ≤ 1000 ∧ i ≤ i' ∧ i' ≤ i + 2 * (d : Int) + 4 := by
  intro d
  induction d with
  | zero =>
   intro l i s hl h0 h1
   by_cases c1 : (l.length : Int) > 0
   ·obtain ⟨b, i2, s2, e2, _, h2, h3⟩ := one_d hc i s 20 h0 (by omega) (by omega)
    obtain ⟨v, i3, s3, e3, hv, h4, h5⟩ := pick_d hc i2 s2 2 (by omega) (by omega) (by omega)
    have w : wrap64 (60 + v) = 60 + v := w64 (by omega) (by omega)
    cases b with
    | true =>
     refine ⟨_, i3, s3, Ev.step (f := fun _ => some (l.set 0 (strOfNums (List.replicate (60 + v).toNat 0)), i3, s3)) (fun k => ?_) (Ev.now _), by rw [List.length_set]; omega, by omega, by omega⟩
     simp only [spec_l1Cur_items16.l0]
     rw [if_neg (by omega), if_pos c1, e2]
     simp only [Option.bind_some]
     rw [if_pos trivial, e3]
     simp only [Option.bind_some]
     rw [w, if_pos (by omega), if_pos (by omega), if_pos (by omega)]
     rfl
    | false =>
     refine ⟨l, i2, s2, Ev.step (f := fun _ => some (l, i2, s2)) (fun k => ?_) (Ev.now _), by omega, by omega, by omega⟩
     simp only [spec_l1Cur_items16.l0]
     rw [if_neg (by omega), if_pos c1, e2]
     simp only [Option.bind_some]
     rw [if_neg (by simp)]
   ·exact ⟨l, i, s, Ev.step (f := fun _ => some (l, i, s)) (fun k => by simp only [spec_l1Cur_items16.l0]; rw [if_neg (by omega), if_neg c1]) (Ev.now _), by omega, by omega, by omega⟩
  | succ d ih =>
   intro l i s hl h0 h1
   have wd : wrap64 (((d + 1 : Nat) : Int) - 1) = (d : Int) := by rw [w64 (by omega) (by omega)]; omega
   obtain ⟨v, i2, s2, e2, hv, h2, h3⟩ := of_d hc i s [(⟨#[]⟩ : ByteArray), (⟨#[112, 117, 116, 32, 97, 32, 49]⟩ : ByteArray), (⟨#[100, 114, 111, 112, 32, 98]⟩ : ByteArray), (⟨#[97, 99, 97]⟩ : ByteArray), (⟨#[98, 97, 98]⟩ : ByteArray)] h0 (by omega) (by decide)
   obtain ⟨l1, i5, s5, r1, z1, z2, z3⟩ := ih (l ++ [v]) i2 s2 (by rw [List.length_append]; simp only [List.length_cons, List.length_nil]; omega) (by omega) (by omega)
   refine ⟨l1, i5, s5, Ev.step (f := fun k => spec_l1Cur_items16.l0 k (l ++ [v]) (d : Int) c i2 s2) (fun k => ?_) r1, z1, by omega, by omega⟩
   simp only [spec_l1Cur_items16.l0]
   rw [if_pos (by omega), e2]
   simp only [Option.bind_some]
   rw [if_pos (by omega), wd]
 have go : ∀ (n : Int) (i s : Int), 0 ≤ n → n ≤ 20 → 0 ≤ i → i ≤ 10000000100 → ∃ l' i' s', Ev (fun k => spec_l1Cur_items16.j0 k [] n c i s) (l', i', s') ∧ l'.length ≤ 1000 ∧ i ≤ i' ∧ i' ≤ i + 50 := by
  intro n i s hn0 hn h0 h1
  obtain ⟨m, rfl⟩ := Int.eq_ofNat_of_zero_le hn0
  obtain ⟨l1, i5, s5, r1, z1, z2, z3⟩ := loop m [] i s (by simp only [List.length_nil]; omega) h0 (by omega)
  exact ⟨l1, i5, s5, Ev.step (f := fun k => spec_l1Cur_items16.l0 k [] ((m : Nat) : Int) c i s) (fun k => by simp only [spec_l1Cur_items16.j0]) r1, z1, z2, by omega⟩
 obtain ⟨n, i2, s2, e2, hn, h2, h3⟩ := pick_d hc i s 4 h0 (by omega) (by omega)
 obtain ⟨b, i3, s3, e3, _, h4, h5⟩ := one_d hc i2 s2 20 (by omega) (by omega) (by omega)
 cases b with
 | true =>
  obtain ⟨v, i4, s4, e4, hv, h6, h7⟩ := pick_d hc i3 s3 2 (by omega) (by omega) (by omega)
  have w : wrap64 (6 + v) = 6 + v := w64 (by omega) (by omega)
  obtain ⟨l1, i5, s5, r1, z1, z2, z3⟩ := go (6 + v) i4 s4 (by omega) (by omega) (by omega) (by omega)
  rw [← w] at r1
  exact ⟨l1, i5, s5, ev_const e2 (ev_const e3 (ev_pos rfl (ev_const e4 r1))), z1, by omega, by omega⟩
 | false =>
  obtain ⟨l1, i5, s5, r1, z1, z2, z3⟩ := go n i3 s3 (by omega) (by omega) (by omega) (by omega)
  exact ⟨l1, i5, s5, ev_const e2 (ev_const e3 (ev_neg (by simp) r1)), z1, by omega, by omega⟩
def Ch (l : List S89) : Prop := l.length ≤ 12 ∧ ∀ x ∈ l, x.f2.length ≤ 1000
theorem Ch.sm {l : List S89} (h : Ch l) : ∀ x ∈ l, Sm x := fun x hx => by have := h.2 x hx; show x.f2.length ≤ 2000000; omega
theorem ch_nil : Ch [] := ⟨by simp, fun x hx => by cases hx⟩
theorem ch_put {l : List S89} (h : Ch l) (a : ByteArray) (m : List ByteArray) (hm : m.length ≤ 1000) : Ch (putBlockM l a m).1 := by
 unfold putBlockM
 split
 ·split
  ·rename_i h2
   refine ⟨by show (l ++ _).length ≤ 12; rw [List.length_append]; simp only [List.length_cons, List.length_nil]; have := h.1; omega, fun x hx => ?_⟩
   rcases List.mem_append.1 hx with hx | hx
   ·exact h.2 x hx
   ·rw [List.mem_singleton.1 hx]; exact hm
  ·exact ch_nil
 ·exact ch_nil
theorem putS {l : List S89} (h : Ch l) (a : ByteArray) (m : List ByteArray) (hm : m.length ≤ 1000) : Ev (fun k => spec_PutBlock.f k l a m) (putBlockM l a m) := putBlockS l a m (by have := h.1; omega) h.sm (by omega)
theorem putI {l : List S89} (h : Ch l) (a : ByteArray) (m : List ByteArray) (hm : m.length ≤ 1000) : Ev (fun k => impl_PutBlock.f k l a m) (putBlockM l a m) := putBlockI l a m (by have := h.1; omega) h.sm (by omega)
theorem chain_d {c : List Int} (hc : Bys c) (i s : Int) (h0 : 0 ≤ i) (h1 : i ≤ 1000000000) : DrawnE i 5000 (fun k => spec_l1Cur_chain.f k c i s) Ch := by
 have loop : ∀ (d : Nat) (l : List S89) (i s : Int), Ch l → 0 ≤ i → i + 110 * (d : Int) ≤ 2000000000 → ∃ l' i' s', Ev (fun k => spec_l1Cur_chain.l0 k l (d : Int) c i s) (l', i', s') ∧ Ch l' ∧ i ≤ i' ∧ i' ≤ i + 110 * (d : Int) + 10 := by
  intro d
  induction d with
  | zero =>
   intro l i s hl h0 h1
   have hn := hl.1
   by_cases c1 : (l.length : Int) > 0
   ·obtain ⟨b, i2, s2, e2, _, h2, h3⟩ := one_d hc i s 12 h0 (by omega) (by omega)
    obtain ⟨v, i3, s3, e3, hv, h4, h5⟩ := pick_d hc i2 s2 (l.length : Int) (by omega) (by omega) (by omega)
    cases b with
    | true =>
     obtain ⟨n, rfl⟩ := Int.eq_ofNat_of_zero_le hv.1
     have hlt : n < l.length := by omega
     refine ⟨_, i3, s3, Ev.step (f := fun _ => some (l.set n ⟨(bk l n).f0, ⟨#[122, 122, 122, 122]⟩, (bk l n).f2⟩, i3, s3)) (fun k => ?_) (Ev.now _), ⟨by rw [List.length_set]; exact hn, fun x hx => ?_⟩, by omega, by omega⟩
     ·simp only [spec_l1Cur_chain.l0]
      rw [if_neg (by omega), if_pos c1, e2]
      simp only [Option.bind_some]
      rw [if_pos trivial, e3]
      simp only [Option.bind_some]
      rw [if_pos (by omega), if_pos (by omega)]
      rfl
     ·rcases List.mem_or_eq_of_mem_set hx with hx | rfl
      ·exact hl.2 x hx
      ·show (bk l n).f2.length ≤ 1000
       rw [bk_at l n hlt]
       exact hl.2 _ (List.getElem_mem hlt)
    | false =>
     refine ⟨l, i2, s2, Ev.step (f := fun _ => some (l, i2, s2)) (fun k => ?_) (Ev.now _), hl, by omega, by omega⟩
     simp only [spec_l1Cur_chain.l0]
     rw [if_neg (by omega), if_pos c1, e2]
     simp only [Option.bind_some]
     rw [if_neg (by simp)]
   ·exact ⟨l, i, s, Ev.step (f := fun _ => some (l, i, s)) (fun k => by simp only [spec_l1Cur_chain.l0]; rw [if_neg (by omega), if_neg c1]) (Ev.now _), hl, by omega, by omega⟩
  | succ d ih =>
   intro l i s hl h0 h1
   have wd : wrap64 (((d + 1 : Nat) : Int) - 1) = (d : Int) := by rw [w64 (by omega) (by omega)]; omega
   obtain ⟨v, i2, s2, e2, hv, h2, h3⟩ := of_d hc i s [(⟨#[114, 114, 114, 114]⟩ : ByteArray), (⟨#[114, 111, 111, 116]⟩ : ByteArray), (⟨#[97, 98, 99]⟩ : ByteArray)] h0 (by omega) (by decide)
   obtain ⟨m, i3, s3, e3, hm, h4, h5⟩ := items16_d hc i2 s2 (by omega) (by omega)
   have hp := putS hl v m hm
   obtain ⟨l1, i5, s5, r1, z1, z2, z3⟩ := ih (putBlockM l v m).1 i3 s3 (ch_put hl v m hm) (by omega) (by omega)
   obtain ⟨l2, i6, s6, r2, y1, y2, y3⟩ := ih l i3 s3 hl (by omega) (by omega)
   have st : ∀ {r}, Ev (fun k => (spec_l1Cur_items16.f k c i2 s2).bind fun q => (spec_PutBlock.f k l v q.1).bind fun t => (if t.2 = true then (spec_l1Cur_chain.l0 k t.1 (d : Int) c q.2.1 q.2.2) else (spec_l1Cur_chain.l0 k l (d : Int) c q.2.1 q.2.2))) r → Ev (fun k => spec_l1Cur_chain.l0 k l ((d + 1 : Nat) : Int) c i s) r := fun h => Ev.step (fun k => by
    simp only [spec_l1Cur_chain.l0]
    rw [if_pos (by omega), e2, wd]
    rfl) h
   cases ho : (putBlockM l v m).2 with
   | true => exact ⟨l1, i5, s5, st (ev_bind e3 (ev_bind hp (ev_pos ho r1))), z1, by omega, by omega⟩
   | false => exact ⟨l2, i6, s6, st (ev_bind e3 (ev_bind hp (ev_neg (by simp [ho]) r2))), y1, by omega, by omega⟩
 have go : ∀ (n : Int) (i s : Int), 0 ≤ n → n ≤ 20 → 0 ≤ i → i ≤ 1000000100 → ∃ l' i' s', Ev (fun k => spec_l1Cur_chain.j0 k [] n c i s) (l', i', s') ∧ Ch l' ∧ i ≤ i' ∧ i' ≤ i + 4000 := by
  intro n i s hn0 hn h0 h1
  obtain ⟨m, rfl⟩ := Int.eq_ofNat_of_zero_le hn0
  obtain ⟨l1, i5, s5, r1, z1, z2, z3⟩ := loop m [] i s ch_nil h0 (by omega)
  exact ⟨l1, i5, s5, Ev.step (f := fun k => spec_l1Cur_chain.l0 k [] ((m : Nat) : Int) c i s) (fun k => by simp only [spec_l1Cur_chain.j0]) r1, z1, z2, by omega⟩
 obtain ⟨n, i2, s2, e2, hn, h2, h3⟩ := pick_d hc i s 6 h0 (by omega) (by omega)
 obtain ⟨b, i3, s3, e3, _, h4, h5⟩ := one_d hc i2 s2 20 (by omega) (by omega) (by omega)
 cases b with
 | true =>
  obtain ⟨l1, i5, s5, r1, z1, z2, z3⟩ := go 14 i3 s3 (by omega) (by omega) (by omega) (by omega)
  exact ⟨l1, i5, s5, ev_const e2 (ev_const e3 (ev_pos rfl r1)), z1, by omega, by omega⟩
 | false =>
  obtain ⟨l1, i5, s5, r1, z1, z2, z3⟩ := go n i3 s3 (by omega) (by omega) (by omega) (by omega)
  exact ⟨l1, i5, s5, ev_const e2 (ev_const e3 (ev_neg (by simp) r1)), z1, by omega, by omega⟩
end Go.Proofs.Ythhkkhnjkoacnaa.QB
end
section
namespace Go.Proofs.Ythhkkhnjkoacnaa.PH
open Go.RowKit Go.Proofs.YthhkkhnjkoacnaaW.PrintWords Go.Proofs.YthhkkhnjkoacnaaW.PrintLast Go.Proofs.YthhkkhnjkoacnaaW.PrintMore Go.Proofs.Ythhkkhnjkoacnaa.PB Go.Proofs.Ythhkkhnjkoacnaa.PL Go.Proofs.Ythhkkhnjkoacnaa.PG Go.Proofs.Ythhkkhnjkoacnaa.PW Go.Proofs.Ythhkkhnjkoacnaa.PX Go.Proofs.Ythhkkhnjkoacnaa.PY Go.Proofs.Ythhkkhnjkoacnaa.PA
set_option linter.unusedVariables false
theorem tx_ext (a b : List ByteArray) (h : a.length = b.length) (he : ∀ i, i < a.length → (tx a i).toList = (tx b i).toList) : a = b := by
 apply List.ext_getElem h
 intro i h1 h2
 have := ba_ext (he i h1)
 unfold tx at this
 rwa [rdOf_at _ _ _ h1, rdOf_at _ _ _ h2] at this
theorem sameTexts_d (a b : List ByteArray) (hl : a.length ≤ 2000000) : Ev (fun k => laws_sameTexts.f k a b) (ch (a = b)) := by
 unfold laws_sameTexts.f
 by_cases h : a.length = b.length
 ·refine ev_pos (by omega) ?_
  have round : ∀ (r : Bool) i, i < a.length → (tx a i).toList = (tx b i).toList → Ev (fun k => laws_sameTexts.l0 k a b (a.length : Int) ((i + 1 : Nat) : Int)) r → Ev (fun k => laws_sameTexts.l0 k a b (a.length : Int) (i : Int)) r := by
   intro r i hi hq h
   refine Ev.step (f := fun k => laws_sameTexts.l0 k a b (a.length : Int) ((i + 1 : Nat) : Int)) (fun k => ?_) h
   simp only [laws_sameTexts.l0]
   rw [if_pos (by omega), if_pos (by omega), if_pos (by omega), if_pos (by omega), if_pos hq, w64 (x := (i : Int) + 1) (by omega) (by omega)]
   rfl
  by_cases hA : ∀ i, i < a.length → (tx a i).toList = (tx b i).toList
  ·rw [ch_yes (tx_ext a b h hA)]
   exact loop_yes a.length (fun i k => laws_sameTexts.l0 k a b (a.length : Int) (i : Int)) _ true round (Ev.step (f := fun _ => some true) (fun k => by simp only [laws_sameTexts.l0]; rw [if_neg (by omega)]) (Ev.now _)) hA
  ·rw [ch_no (fun e => hA (fun i _ => by rw [e]))]
   refine loop_no a.length (fun i k => laws_sameTexts.l0 k a b (a.length : Int) (i : Int)) _ false round (fun i hi hq => ?_) hA
   refine Ev.step (f := fun _ => some false) (fun k => ?_) (Ev.now _)
   simp only [laws_sameTexts.l0]
   rw [if_pos (by omega), if_pos (by omega), if_pos (by omega), if_pos (by omega), if_neg hq]
 ·refine ev_neg (by omega) ?_
  rw [ch_no (fun e => h (by rw [e]))]
  exact Ev.now _
theorem sameTexts_yes (a : List ByteArray) (hl : a.length ≤ 2000000) : Ev (fun k => laws_sameTexts.f k a a) true := ev_eq (sameTexts_d a a hl) (ch_yes rfl)
theorem sameBlock_d (a b : ByteArray) (l : List ByteArray) (c d : ByteArray) (m : List ByteArray) (hl : l.length ≤ 2000000) : Ev (fun k => laws_sameBlock.f k a b l c d m) (ch (a = c ∧ b = d ∧ l = m)) := by
 unfold laws_sameBlock.f
 by_cases h1 : a.toList = c.toList
 ·refine ev_pos h1 ?_
  by_cases h2 : b.toList = d.toList
  ·refine ev_pos h2 (ev_bind (sameTexts_d l m hl) (ev_eq (Ev.now _) ?_))
   by_cases h3 : l = m
   ·rw [ch_yes h3, ch_yes ⟨ba_ext h1, ba_ext h2, h3⟩]
   ·rw [ch_no h3, ch_no (fun h => h3 h.2.2)]
  ·exact ev_neg h2 (ev_eq (Ev.now _) (ch_no (fun h => h2 (by rw [h.2.1]))).symm)
 ·exact ev_neg h1 (ev_eq (Ev.now _) (ch_no (fun h => h1 (by rw [h.1]))).symm)
theorem sameChain_d (l m : List S89) (hl : l.length ≤ 2000000) (hs : ∀ x ∈ l, Sm x) : Ev (fun k => laws_sameChain.f k l m) (ch (l = m)) := by
 unfold laws_sameChain.f
 by_cases h : l.length = m.length
 ·refine ev_pos (by omega) ?_
  have one : ∀ {r : Bool} (i : Nat) (h1 : i < l.length) (h2 : i < m.length), Ev (fun k => (laws_sameBlock.f k l[i].f0 l[i].f1 l[i].f2 m[i].f0 m[i].f1 m[i].f2).bind fun t => if t = true then laws_sameChain.l0 k l m (l.length : Int) ((i + 1 : Nat) : Int) else some false) r → Ev (fun k => laws_sameChain.l0 k l m (l.length : Int) (i : Int)) r := by
   intro r i h1 h2 hr
   refine Ev.step (fun k => ?_) hr
   simp only [laws_sameChain.l0]
   rw [if_pos (by omega), if_pos (by omega), if_pos (by omega), if_pos (by omega), PY.rdI_at l i h1, PY.rdI_at m i h2, w64 (x := (i : Int) + 1) (by omega) (by omega)]
   rfl
  have eqB : ∀ x y : S89, (x.f0 = y.f0 ∧ x.f1 = y.f1 ∧ x.f2 = y.f2) ↔ x = y := by
   intro x y
   constructor
   ·rintro ⟨h1, h2, h3⟩
    cases x; cases y
    simp only at h1 h2 h3
    rw [h1, h2, h3]
   ·rintro rfl; exact ⟨rfl, rfl, rfl⟩
  by_cases hA : ∀ i, i < l.length → l[i]? = m[i]?
  ·rw [ch_yes (List.ext_getElem? (fun i => by
    by_cases hi : i < l.length
    ·exact hA i hi
    ·rw [List.getElem?_eq_none (by omega), List.getElem?_eq_none (by omega)]))]
   refine loop_yes l.length (fun i k => laws_sameChain.l0 k l m (l.length : Int) (i : Int)) (fun i => l[i]? = m[i]?) true (fun r i hi hq hr => ?_) (Ev.step (f := fun _ => some true) (fun k => by simp only [laws_sameChain.l0]; rw [if_neg (by omega)]) (Ev.now _)) hA
   rw [List.getElem?_eq_getElem hi, List.getElem?_eq_getElem (by omega : i < m.length)] at hq
   exact one i hi (by omega) (ev_bind (sameBlock_d _ _ _ _ _ _ (hs _ (List.getElem_mem hi))) (ev_pos (ch_yes ((eqB _ _).2 (Option.some.inj hq))) hr))
  ·rw [ch_no (fun e => hA (fun i _ => by rw [e]))]
   refine loop_no l.length (fun i k => laws_sameChain.l0 k l m (l.length : Int) (i : Int)) (fun i => l[i]? = m[i]?) false (fun r i hi hq hr => ?_) (fun i hi hq => ?_) hA
   ·rw [List.getElem?_eq_getElem hi, List.getElem?_eq_getElem (by omega : i < m.length)] at hq
    exact one i hi (by omega) (ev_bind (sameBlock_d _ _ _ _ _ _ (hs _ (List.getElem_mem hi))) (ev_pos (ch_yes ((eqB _ _).2 (Option.some.inj hq))) hr))
   ·rw [List.getElem?_eq_getElem hi, List.getElem?_eq_getElem (by omega : i < m.length)] at hq
    refine one i hi (by omega) (ev_bind (sameBlock_d _ _ _ _ _ _ (hs _ (List.getElem_mem hi))) (ev_neg ?_ (Ev.now _)))
    rw [ch_no (fun e => hq (congrArg some ((eqB _ _).1 e)))]
    simp
 ·exact ev_neg (by omega) (ev_eq (Ev.now _) (ch_no (fun e => h (by rw [e]))).symm)
end Go.Proofs.Ythhkkhnjkoacnaa.PH
end
section
namespace Go.Proofs.Ythhkkhnjkoacnaa.QG
open Go.RowKit Go.Proofs.YthhkkhnjkoacnaaW.PrintWords Go.Proofs.YthhkkhnjkoacnaaW.PrintLast Go.Proofs.YthhkkhnjkoacnaaW.PrintMore Go.Proofs.Ythhkkhnjkoacnaa.PB Go.Proofs.Ythhkkhnjkoacnaa.PD Go.Proofs.Ythhkkhnjkoacnaa.PK Go.Proofs.Ythhkkhnjkoacnaa.PL Go.Proofs.Ythhkkhnjkoacnaa.PT Go.Proofs.Ythhkkhnjkoacnaa.PG Go.Proofs.Ythhkkhnjkoacnaa.PQ Go.Proofs.Ythhkkhnjkoacnaa.PC Go.Proofs.Ythhkkhnjkoacnaa.PW Go.Proofs.Ythhkkhnjkoacnaa.PX Go.Proofs.Ythhkkhnjkoacnaa.PY Go.Proofs.Ythhkkhnjkoacnaa.PJ Go.Proofs.Ythhkkhnjkoacnaa.QA Go.Proofs.Ythhkkhnjkoacnaa.QB Go.Proofs.Ythhkkhnjkoacnaa.QN Go.Proofs.Ythhkkhnjkoacnaa.PA
set_option linter.unusedVariables false
theorem ex_size (x : ByteArray) (i j : Nat) : (x.extract i j).size = min j x.size - i := ByteArray.size_extract
theorem spoilt_d {c : List Int} (hc : Bys c) (i s : Int) (x y : ByteArray) (hx : x.size ≤ 100000) (hy : 1 ≤ y.size ∧ y.size ≤ 100000) (h0 : 0 ≤ i) (h1 : i ≤ 10000000000) : DrawnE i 100 (fun k => spec_l1Cur_spoilt.f k c i s x y) (fun t => t.size ≤ x.size + 3) := by
 have loop : ∀ (d : Nat) (x : ByteArray) (i s : Int), x.size + d ≤ 200000 → 0 ≤ i → i + 10 * (d : Int) ≤ 20000000000 → ∃ t i' s', Ev (fun k => spec_l1Cur_spoilt.l0 k x y (d : Int) c i s) (t, i', s') ∧ t.size ≤ x.size + d ∧ i ≤ i' ∧ i' ≤ i + 10 * (d : Int) := by
  intro d
  induction d with
  | zero =>
   intro x i s hl h0 h1
   refine ⟨x, i, s, Ev.step (f := fun k => spec_l1Cur_spoilt.j1 k x y ((0 : Nat) : Int) false c i s) (fun k => by simp only [spec_l1Cur_spoilt.l0]; rw [if_neg (by omega)]) (Ev.step (f := fun _ => some (x, i, s)) (fun k => by simp only [spec_l1Cur_spoilt.j1]; rw [if_neg (by simp)]) (Ev.now _)), by omega, by omega, by omega⟩
  | succ d ih =>
   intro x i s hl h0 h1
   have wd : wrap64 (((d + 1 : Nat) : Int) - 1) = (d : Int) := by rw [w64 (by omega) (by omega)]; omega
   by_cases hz : (x.size : Int) > 0
   ·obtain ⟨v, i2, s2, e2, hv, h2, h3⟩ := pick_d hc i s (x.size : Int) h0 (by omega) (by omega)
    obtain ⟨u, i3, s3, e3, hu, h4, h5⟩ := pick_d hc i2 s2 (y.size : Int) (by omega) (by omega) (by omega)
    obtain ⟨q, i4, s4, e4, hq, h6, h7⟩ := pick_d hc i3 s3 3 (by omega) (by omega) (by omega)
    have st : ∀ (x' : ByteArray), x'.size ≤ x.size + 1 → (∀ k, (if q = 0 then (if 0 ≤ v then (if v ≤ (x.size : Int) then (if (x.extract 0 (v : Int).toNat).size + (strOfNums [bt y u]).size ≤ 9223372036854775807 then (if ((x.extract 0 (v : Int).toNat) ++ (strOfNums [bt y u])).size + (x.extract (v : Int).toNat x.size).size ≤ 9223372036854775807 then (spec_l1Cur_spoilt.l0 k (((x.extract 0 (v : Int).toNat) ++ (strOfNums [bt y u])) ++ (x.extract (v : Int).toNat x.size)) y (wrap64 (((d + 1 : Nat) : Int) - 1)) c i4 s4) else (none)) else (none)) else (none)) else (none)) else (if q = 1 then (if 0 ≤ v then (if v ≤ (x.size : Int) then (if (x.extract 0 (v : Int).toNat).size + (strOfNums [bt y u]).size ≤ 9223372036854775807 then (if 0 ≤ (wrap64 (v + 1)) then (if (wrap64 (v + 1)) ≤ (x.size : Int) then (if ((x.extract 0 (v : Int).toNat) ++ (strOfNums [bt y u])).size + (x.extract ((wrap64 (v + 1)) : Int).toNat x.size).size ≤ 9223372036854775807 then (spec_l1Cur_spoilt.l0 k (((x.extract 0 (v : Int).toNat) ++ (strOfNums [bt y u])) ++ (x.extract ((wrap64 (v + 1)) : Int).toNat x.size)) y (wrap64 (((d + 1 : Nat) : Int) - 1)) c i4 s4) else (none)) else (none)) else (none)) else (none)) else (none)) else (none)) else (if 0 ≤ v then (if v ≤ (x.size : Int) then (if 0 ≤ (wrap64 (v + 1)) then (if (wrap64 (v + 1)) ≤ (x.size : Int) then (if (x.extract 0 (v : Int).toNat).size + (x.extract ((wrap64 (v + 1)) : Int).toNat x.size).size ≤ 9223372036854775807 then (spec_l1Cur_spoilt.l0 k ((x.extract 0 (v : Int).toNat) ++ (x.extract ((wrap64 (v + 1)) : Int).toNat x.size)) y (wrap64 (((d + 1 : Nat) : Int) - 1)) c i4 s4) else (none)) else (none)) else (none)) else (none)) else (none)))) = spec_l1Cur_spoilt.l0 k x' y (d : Int) c i4 s4) → ∃ t i' s', Ev (fun k => spec_l1Cur_spoilt.l0 k x y ((d + 1 : Nat) : Int) c i s) (t, i', s') ∧ t.size ≤ x.size + (d + 1) ∧ i ≤ i' ∧ i' ≤ i + 10 * ((d + 1 : Nat) : Int) := by
     intro x' hx' hk
     obtain ⟨t, i5, s5, r1, z1, z2, z3⟩ := ih x' i4 s4 (by omega) (by omega) (by omega)
     refine ⟨t, i5, s5, Ev.step (f := fun k => spec_l1Cur_spoilt.j1 k x y ((d + 1 : Nat) : Int) true c i s) (fun k => ?_) (Ev.step (f := fun k => spec_l1Cur_spoilt.l0 k x' y (d : Int) c i4 s4) (fun k => ?_) r1), by omega, by omega, by omega⟩
     ·simp only [spec_l1Cur_spoilt.l0]; rw [if_pos (by omega), decide_eq_true hz]
     ·rw [← hk]
      simp only [spec_l1Cur_spoilt.j1]
      rw [if_pos trivial, e2]; simp only [Option.bind_some]
      rw [e3]; simp only [Option.bind_some]
      rw [if_pos (by omega), if_pos (by omega)]
      rw [e4]; simp only [Option.bind_some]
    have hs1 : (strOfNums [bt y u]).size = 1 := by rw [strOfNums_size]; rfl
    have w1 : wrap64 (v + 1) = v + 1 := w64 (by omega) (by omega)
    have z1 := ex_size x 0 v.toNat
    have z2 := ex_size x v.toNat x.size
    have z3 := ex_size x (v + 1).toNat x.size
    have z4 := app_size (x.extract 0 v.toNat) (strOfNums [bt y u])
    by_cases q0 : q = 0
    ·refine st ((x.extract 0 v.toNat ++ strOfNums [bt y u]) ++ x.extract v.toNat x.size) (by rw [app_size]; omega) (fun k => ?_)
     rw [if_pos q0, if_pos hv.1, if_pos (by omega), if_pos (by omega), if_pos (by omega), wd]
    ·by_cases q1 : q = 1
     ·refine st ((x.extract 0 v.toNat ++ strOfNums [bt y u]) ++ x.extract (v + 1).toNat x.size) (by rw [app_size]; omega) (fun k => ?_)
      rw [if_neg q0, if_pos q1, if_pos hv.1, if_pos (by omega), if_pos (by omega), w1, if_pos (by omega), if_pos (by omega), if_pos (by omega), wd]
     ·refine st (x.extract 0 v.toNat ++ x.extract (v + 1).toNat x.size) (by rw [app_size]; omega) (fun k => ?_)
      rw [if_neg q0, if_neg q1, if_pos hv.1, if_pos (by omega), w1, if_pos (by omega), if_pos (by omega), if_pos (by omega), wd]
   ·refine ⟨x, i, s, Ev.step (f := fun k => spec_l1Cur_spoilt.j1 k x y ((d + 1 : Nat) : Int) false c i s) (fun k => by simp only [spec_l1Cur_spoilt.l0]; rw [if_pos (by omega), decide_eq_false hz]) (Ev.step (f := fun _ => some (x, i, s)) (fun k => by simp only [spec_l1Cur_spoilt.j1]; rw [if_neg (by simp)]) (Ev.now _)), by omega, by omega, by omega⟩
 obtain ⟨v, i2, s2, e2, hv, h2, h3⟩ := pick_d hc i s 3 h0 (by omega) (by omega)
 obtain ⟨m, rfl⟩ := Int.eq_ofNat_of_zero_le hv.1
 obtain ⟨t, i5, s5, r1, z1, z2, z3⟩ := loop m x i2 s2 (by omega) (by omega) (by omega)
 exact ⟨t, i5, s5, ev_const e2 r1, by show t.size ≤ x.size + 3; omega, by omega, by omega⟩
theorem ex_list (s : ByteArray) (i j : Nat) : (s.extract i j).toList = (s.toList.drop i).take (j - i) := by
 rw [ByteArray.toList_eq, ByteArray.toList_eq, ByteArray.data_extract, Array.toList_extract, List.extract_eq_take_drop]
theorem ex_tail (s : ByteArray) (i : Nat) : (s.extract i s.size).toList = s.toList.drop i := by
 rw [ex_list, List.take_of_length_le (by rw [List.length_drop, size_toList]; omega)]
def noBlk : ByteArray × ByteArray × List ByteArray × Bool := (⟨#[]⟩, ⟨#[]⟩, [], false)
def finB (p q : ByteArray) (o : Option (List ByteArray)) : ByteArray × ByteArray × List ByteArray × Bool := match o with
 | some l => if blockB p q l = true then (p, q, l, true) else noBlk
 | none => noBlk
theorem fin_yes {p q : ByteArray} {x : List ByteArray} (h : blockB p q x = true) : finB p q (some x) = (p, q, x, true) := by
 show (if blockB p q x = true then (p, q, x, true) else noBlk) = _
 rw [if_pos h]
theorem fin_no {p q : ByteArray} {x : List ByteArray} (h : blockB p q x = false) : finB p q (some x) = noBlk := by
 show (if blockB p q x = true then (p, q, x, true) else noBlk) = _
 rw [h]; rfl
theorem finI (p q : ByteArray) (x : List ByteArray) (hx : x.length ≤ 2000000) : Ev (fun k => (impl_GoodBlock.f k p q x).bind fun t => if t = true then some (p, q, x, true) else some noBlk) (finB p q (some x)) := by
 have h := goodBlockI p q x hx
 cases e : blockB p q x with
 | true => rw [e] at h; exact ev_bind h (ev_pos rfl (ev_eq (Ev.now _) (fin_yes e).symm))
 | false => rw [e] at h; exact ev_bind h (ev_neg (by simp) (ev_eq (Ev.now _) (fin_no e).symm))
theorem finS (p q : ByteArray) (x : List ByteArray) (hx : x.length ≤ 2000000) : Ev (fun k => (spec_GoodBlock.f k p q x).bind fun t => if t = true then some (p, q, x, true) else some noBlk) (finB p q (some x)) := by
 have h := goodBlockS p q x hx
 cases e : blockB p q x with
 | true => rw [e] at h; exact ev_bind h (ev_pos rfl (ev_eq (Ev.now _) (fin_yes e).symm))
 | false => rw [e] at h; exact ev_bind h (ev_neg (by simp) (ev_eq (Ev.now _) (fin_no e).symm))
theorem map_cons_app (x : List ByteArray) (y : ByteArray) (o : Option (List ByteArray)) : ((o.map fun l => y :: l).map fun l => x ++ l) = o.map fun l => x ++ [y] ++ l := by
 cases o with
 | none => rfl
 | some l => show some (x ++ y :: l) = some (x ++ [y] ++ l); rw [List.append_assoc]; rfl
theorem readBI (p q : ByteArray) : ∀ (n : Nat) (s : ByteArray) (x : List ByteArray), s.size ≤ n → s.size + x.length ≤ 600 → Ev (fun k => impl_ReadBlock.l0 k s p q x) (finB p q ((rowR n s.toList).map fun l => x ++ l)) := by
 intro n
 induction n with
 | zero =>
  intro s x hs hx
  have e : s.toList = [] := List.length_eq_zero_iff.1 (by rw [size_toList]; omega)
  rw [e, rowR_nil, Option.map_some, List.append_nil]
  exact Ev.step (f := fun k => (impl_GoodBlock.f k p q x).bind fun t => if t = true then some (p, q, x, true) else some noBlk) (fun k => by simp only [impl_ReadBlock.l0]; rw [if_pos e]; rfl) (finI p q x (by omega))
 | succ n ih =>
  intro s x hs hx
  cases e : s.toList with
  | nil =>
   rw [rowR_nil, Option.map_some, List.append_nil]
   exact Ev.step (f := fun k => (impl_GoodBlock.f k p q x).bind fun t => if t = true then some (p, q, x, true) else some noBlk) (fun k => by simp only [impl_ReadBlock.l0]; rw [if_pos e]; rfl) (finI p q x (by omega))
  | cons c r =>
   have hz : s.size = r.length + 1 := by rw [← size_toList, e]; rfl
   have hb : bt s 0 = (c.toNat : Int) := by
    have := bt_get s 0 (by omega)
    rw [e] at this
    exact this
   have hc := UInt8.toNat_lt c
   have w1 : wrap64 (c.toNat : Int) = (c.toNat : Int) := w64 (by omega) (by omega)
   have w2 : wrap64 (1 + (c.toNat : Int)) = ((c.toNat + 1 : Nat) : Int) := by rw [w64 (by omega) (by omega)]; omega
   rw [rowR_cons]
   by_cases hl : c.toNat ≤ r.length
   ·rw [if_pos hl, map_cons_app]
    have h1 : (s.extract (c.toNat + 1) s.size).toList = r.drop c.toNat := by rw [ex_tail, e]; rfl
    have h2 : s.extract 1 (c.toNat + 1) = str (r.take c.toNat) := ba_ext (by rw [ex_list, e, str_list]; rfl)
    have h3 : (s.extract (c.toNat + 1) s.size).size = r.length - c.toNat := by rw [← size_toList, h1, List.length_drop]
    have r1 := ih (s.extract (c.toNat + 1) s.size) (x ++ [str (r.take c.toNat)]) (by omega) (by rw [List.length_append]; simp only [List.length_cons, List.length_nil]; omega)
    rw [h1] at r1
    refine Ev.step (fun k => ?_) r1
    simp only [impl_ReadBlock.l0]
    rw [if_neg (by rw [e]; simp), if_pos (by omega), hb, w1, w2, if_neg (by omega), if_pos (by omega), if_pos (by omega), if_pos (by omega), if_pos (by omega), Int.toNat_natCast, h2]
   ·rw [if_neg hl]
    refine Ev.step (f := fun _ => some noBlk) (fun k => ?_) (Ev.now _)
    simp only [impl_ReadBlock.l0]
    rw [if_neg (by rw [e]; simp), if_pos (by omega), hb, w1, if_pos (by omega)]
    rfl
theorem wz1 (c : UInt8) : wrap64 (c.toNat : Int) = (c.toNat : Int) := by
 have := UInt8.toNat_lt c
 exact w64 (by omega) (by omega)
theorem wz2 (n i r : Nat) (h : n = i + r + 1) (hn : n ≤ 600) : wrap64 (wrap64 ((n : Int) - (i : Int)) - 1) = (r : Int) := by
 rw [w64 (x := (n : Int) - (i : Int)) (by omega) (by omega), w64 (by omega) (by omega)]; omega
theorem wz3 (i : Nat) (h : i ≤ 600) : wrap64 ((i : Int) + 1) = ((i + 1 : Nat) : Int) := by
 rw [w64 (by omega) (by omega)]; omega
theorem wz4 (i : Nat) (c : UInt8) (h : i ≤ 600) : wrap64 (((i + 1 : Nat) : Int) + (c.toNat : Int)) = ((i + 1 + c.toNat : Nat) : Int) := by
 have := UInt8.toNat_lt c
 rw [w64 (by omega) (by omega)]; omega
theorem wz6 (c : UInt8) : wrap64 (1 + (c.toNat : Int)) = ((c.toNat + 1 : Nat) : Int) := by
 have := UInt8.toNat_lt c
 rw [w64 (by omega) (by omega)]; omega
theorem wz7 (i c : Nat) (h : i ≤ 600) (hc : c ≤ 600) : wrap64 ((i : Int) + ((c + 1 : Nat) : Int)) = ((i + 1 + c : Nat) : Int) := by
 rw [w64 (by omega) (by omega)]; omega
theorem wz5 (i : Nat) (c : UInt8) (h : i ≤ 600) : wrap64 ((i : Int) + wrap64 (1 + (c.toNat : Int))) = ((i + 1 + c.toNat : Nat) : Int) := by
 rw [wz6]
 exact wz7 i c.toNat h (by have := UInt8.toNat_lt c; omega)
theorem readBS (s p q : ByteArray) (hs : s.size ≤ 600) : ∀ (n i : Nat) (x : List ByteArray), i ≤ s.size → s.size ≤ i + n → x.length ≤ i → Ev (fun k => spec_ReadBlock.l0 k s (i : Int) p q x) (finB p q ((rowR n (s.toList.drop i)).map fun l => x ++ l)) := by
 intro n
 induction n with
 | zero =>
  intro i x hi hn hx
  have e : s.toList.drop i = [] := List.drop_eq_nil_of_le (by rw [size_toList]; omega)
  rw [e, rowR_nil, Option.map_some, List.append_nil]
  exact Ev.step (f := fun k => (spec_GoodBlock.f k p q x).bind fun t => if t = true then some (p, q, x, true) else some noBlk) (fun k => by simp only [spec_ReadBlock.l0]; rw [if_neg (by omega)]; rfl) (finS p q x (by omega))
 | succ n ih =>
  intro i x hi hn hx
  cases e : s.toList.drop i with
  | nil =>
   have hi2 : s.size ≤ i := by have := congrArg List.length e; rw [List.length_drop, size_toList] at this; simp at this; omega
   rw [rowR_nil, Option.map_some, List.append_nil]
   exact Ev.step (f := fun k => (spec_GoodBlock.f k p q x).bind fun t => if t = true then some (p, q, x, true) else some noBlk) (fun k => by simp only [spec_ReadBlock.l0]; rw [if_neg (by omega)]; rfl) (finS p q x (by omega))
  | cons c r =>
   have hz : s.size = i + r.length + 1 := by have := congrArg List.length e; rw [List.length_drop, size_toList] at this; simp only [List.length_cons] at this; omega
   have hb : bt s (i : Int) = (c.toNat : Int) := by
    rw [bt_get s i (by omega)]
    have : s.toList.drop i = s.toList.getD i 0 :: s.toList.drop (i + 1) := drop_at _ _ (by rw [size_toList]; omega)
    rw [e] at this
    injection this with h1 _
    rw [← h1]
   have hr : s.toList.drop (i + 1) = r := by
    have : s.toList.drop i = s.toList.getD i 0 :: s.toList.drop (i + 1) := drop_at _ _ (by rw [size_toList]; omega)
    rw [e] at this
    injection this with _ h2
    exact h2.symm
   have hc := UInt8.toNat_lt c
   rw [rowR_cons]
   by_cases hl : c.toNat ≤ r.length
   ·rw [if_pos hl, map_cons_app]
    have h2 : s.extract (i + 1) (i + 1 + c.toNat) = str (r.take c.toNat) := ba_ext (by rw [ex_list, hr, str_list, Nat.add_sub_cancel_left])
    have h1 : s.toList.drop (i + 1 + c.toNat) = r.drop c.toNat := by rw [← hr, List.drop_drop]
    have r1 := ih (i + 1 + c.toNat) (x ++ [str (r.take c.toNat)]) (by omega) (by omega) (by rw [List.length_append]; simp only [List.length_cons, List.length_nil]; omega)
    rw [h1] at r1
    refine Ev.step (fun k => ?_) r1
    simp only [spec_ReadBlock.l0]
    rw [if_pos (by omega), if_pos (by omega), hb, wz1, wz2 _ _ _ hz hs, if_neg (by omega), wz3 i (by omega), wz4 i c (by omega), wz5 i c (by omega), if_pos (by omega), if_pos (by omega), if_pos (by omega), if_pos (by omega), Int.toNat_natCast, Int.toNat_natCast, h2]
   ·rw [if_neg hl]
    refine Ev.step (f := fun _ => some noBlk) (fun k => ?_) (Ev.now _)
    simp only [spec_ReadBlock.l0]
    rw [if_pos (by omega), if_pos (by omega), hb, wz1, wz2 _ _ _ hz hs, if_pos (by omega)]
    rfl
def readBlkM (s : ByteArray) : ByteArray × ByteArray × List ByteArray × Bool :=
 if 8 ≤ (s.size : Int) ∧ (s.size : Int) ≤ 600 then finB (s.extract 0 4) (s.extract 4 8) (rowR 600 (s.toList.drop 8)) else noBlk
theorem map_nil_app (o : Option (List ByteArray)) : (o.map fun l => [] ++ l) = o := by cases o <;> rfl
theorem readBlkI (s : ByteArray) : Ev (fun k => impl_ReadBlock.f k s) (readBlkM s) := by
 unfold readBlkM
 by_cases h : 8 ≤ (s.size : Int) ∧ (s.size : Int) ≤ 600
 ·rw [if_pos h]
  have r := readBI (s.extract 0 4) (s.extract 4 8) 600 (s.extract 8 s.size) [] (by rw [ex_size]; omega) (by rw [ex_size]; simp only [List.length_nil]; omega)
  rw [ex_tail, map_nil_app] at r
  exact ev_const (inI _ _ _) (ev_pos (decide_eq_true h) (ev_pos (by decide) (ev_pos (by omega) (ev_pos (by decide) (ev_pos (by omega) r)))))
 ·rw [if_neg h]
  exact ev_const (inI _ _ _) (ev_neg (by rw [decide_eq_false h]; simp) (Ev.now _))
theorem readBlkS (s : ByteArray) : Ev (fun k => spec_ReadBlock.f k s) (readBlkM s) := by
 unfold readBlkM
 by_cases h : 8 ≤ (s.size : Int) ∧ (s.size : Int) ≤ 600
 ·rw [if_pos h]
  have r := readBS s (s.extract 0 4) (s.extract 4 8) (by omega) 600 8 [] (by omega) (by omega) (by simp)
  rw [map_nil_app] at r
  exact ev_const (inS _ _ _) (ev_pos (decide_eq_true h) (ev_pos (by decide) (ev_pos (by omega) (ev_pos (by decide) (ev_pos (by omega) r)))))
 ·rw [if_neg h]
  exact ev_const (inS _ _ _) (ev_neg (by rw [decide_eq_false h]; simp) (Ev.now _))
def blkBytesM (a b : ByteArray) (l : List ByteArray) : ByteArray × Bool := if blockB a b l = true then (blockM a b l, true) else (⟨#[]⟩, false)
theorem blkBytesI (a b : ByteArray) (l : List ByteArray) (hl : l.length ≤ 2000000) : Ev (fun k => impl_BlockBytes.f k a b l) (blkBytesM a b l) := by
 have h := goodBlockI a b l hl
 unfold blkBytesM
 cases e : blockB a b l with
 | true => rw [e] at h; exact ev_bind h (ev_pos rfl (ev_bind (bytesBI a b l e) (Ev.now _)))
 | false => rw [e] at h; exact ev_bind h (ev_neg (by simp) (Ev.now _))
theorem blkBytesS (a b : ByteArray) (l : List ByteArray) (hl : l.length ≤ 2000000) : Ev (fun k => spec_BlockBytes.f k a b l) (blkBytesM a b l) := by
 have h := goodBlockS a b l hl
 unfold blkBytesM
 cases e : blockB a b l with
 | true => rw [e] at h; exact ev_bind h (ev_pos rfl (ev_bind (bytesBS a b l e) (Ev.now _)))
 | false => rw [e] at h; exact ev_bind h (ev_neg (by simp) (Ev.now _))
def blkDigM (a b : ByteArray) (l : List ByteArray) : ByteArray × Bool := if blockB a b l = true then (dig 104 (blockM a b l), true) else (⟨#[]⟩, false)
theorem blkDigI (a b : ByteArray) (l : List ByteArray) (hl : l.length ≤ 2000000) : Ev (fun k => impl_BlockDigest.f k a b l) (blkDigM a b l) := by
 have h := goodBlockI a b l hl
 unfold blkDigM
 cases e : blockB a b l with
 | true => rw [e] at h; exact ev_bind h (ev_pos rfl (ev_bind (digBI a b l e) (Ev.now _)))
 | false => rw [e] at h; exact ev_bind h (ev_neg (by simp) (Ev.now _))
theorem blkDigS (a b : ByteArray) (l : List ByteArray) (hl : l.length ≤ 2000000) : Ev (fun k => spec_BlockDigest.f k a b l) (blkDigM a b l) := by
 have h := goodBlockS a b l hl
 unfold blkDigM
 cases e : blockB a b l with
 | true => rw [e] at h; exact ev_bind h (ev_pos rfl (ev_bind (digBS a b l e) (Ev.now _)))
 | false => rw [e] at h; exact ev_bind h (ev_neg (by simp) (Ev.now _))
theorem items_small {p q : ByteArray} {k : List ByteArray} (hk : blockB p q k = true) : ∀ s ∈ k, s.size ≤ 255 := by
 intro s hs
 unfold blockB at hk
 simp only [Bool.and_eq_true] at hk
 have := of_decide_eq_true (List.all_eq_true.1 hk.2.2.2 s hs)
 omega
theorem blockM_list (a b : ByteArray) (l : List ByteArray) : (blockM a b l).toList = a.toList ++ (b.toList ++ (rowM l).toList) := by
 unfold blockM
 rw [app_list, app_list, List.append_assoc]
theorem readBlk_cat {a b : ByteArray} {l : List ByteArray} (h : blockB a b l = true) : readBlkM (blockM a b l) = (a, b, l, true) := by
 obtain ⟨ha, hb, hl, ht⟩ := blockB_facts h
 have hz := blockM_size h
 have e := blockM_list a b l
 have la : a.toList.length = 4 := by rw [size_toList]; exact ha
 have lb : b.toList.length = 4 := by rw [size_toList]; exact hb
 have hz2 : 8 ≤ (blockM a b l).size := by rw [← size_toList, e, List.length_append, List.length_append]; omega
 have e1 : (blockM a b l).extract 0 4 = a := ba_ext (by rw [ex_list, e, List.drop_zero, ← la]; exact List.take_left)
 have e2 : (blockM a b l).extract 4 8 = b := ba_ext (by
  rw [ex_list, e]
  have : (a.toList ++ (b.toList ++ (rowM l).toList)).drop 4 = b.toList ++ (rowM l).toList := by rw [← la]; exact List.drop_left
  rw [this, show 8 - 4 = b.toList.length by omega]
  exact List.take_left)
 have e3 : (blockM a b l).toList.drop 8 = (rowM l).toList := by
  rw [e, ← List.append_assoc, show 8 = (a.toList ++ b.toList).length by rw [List.length_append]; omega]
  exact List.drop_left
 unfold readBlkM
 rw [if_pos (by omega), e1, e2, e3, rowR_cat l 600 (by omega) (items_small h)]
 exact fin_yes h
theorem readBlk_back {s a b : ByteArray} {l : List ByteArray} (h : readBlkM s = (a, b, l, true)) : blockB a b l = true ∧ blockM a b l = s := by
 unfold readBlkM at h
 by_cases h0 : 8 ≤ (s.size : Int) ∧ (s.size : Int) ≤ 600
 ·rw [if_pos h0] at h
  cases hr : rowR 600 (s.toList.drop 8) with
  | none => rw [hr] at h; cases h
  | some m =>
   rw [hr] at h
   unfold finB at h
   dsimp only at h
   by_cases hb : blockB (s.extract 0 4) (s.extract 4 8) m = true
   ·rw [if_pos hb] at h
    injection h with h1 h; injection h with h2 h; injection h with h3 _
    subst h1; subst h2; subst h3
    refine ⟨hb, ba_ext ?_⟩
    rw [blockM_list, ← (rowR_back _ _ _ hr).2, ex_list, ex_list, List.drop_zero]
    have : s.toList.drop 4 = (s.toList.drop 4).take (8 - 4) ++ s.toList.drop 8 := by
     conv => { lhs; rw [← List.take_append_drop (8 - 4) (s.toList.drop 4)] }
     rw [List.drop_drop]
    rw [← this]
    exact List.take_append_drop 4 s.toList
   ·rw [if_neg hb] at h; cases h
 ·rw [if_neg h0] at h; cases h
theorem readBlk_len (s : ByteArray) : (readBlkM s).2.2.1.length ≤ 2000000 := by
 cases h : readBlkM s with
 | mk a p =>
  obtain ⟨b, l, f⟩ := p
  cases f with
  | true => have := (blockB_facts (readBlk_back h).1).2.2.1; show l.length ≤ _; omega
  | false =>
   have no : l = [] := by
    unfold readBlkM at h
    split at h
    ·unfold finB at h
     split at h
     ·split at h
      ·injection h with _ h; injection h with _ h; injection h with _ h; cases h
      ·unfold noBlk at h; injection h with _ h; injection h with _ h; injection h with h _; exact h.symm
     ·unfold noBlk at h; injection h with _ h; injection h with _ h; injection h with h _; exact h.symm
    ·unfold noBlk at h; injection h with _ h; injection h with _ h; injection h with h _; exact h.symm
   subst no
   simp
theorem block_d {c : List Int} (hc : Bys c) : ∃ a b l i s, Ev (fun k => spec_l1Cur_block.f k c 0 0) (a, b, l, i, s) ∧ l.length ≤ 1000 ∧ 0 ≤ i ∧ i ≤ 10000 := by
 obtain ⟨l, i, s, e, hl, h1, h2⟩ := chain_d hc 0 0 (by omega) (by omega)
 by_cases h0 : (l.length : Int) = 0
 ·exact ⟨_, _, _, i, s, ev_bind e (ev_pos h0 (Ev.now _)), by simp, by omega, by omega⟩
 ·have h12 := hl.1
  obtain ⟨v, i2, s2, e2, hv, h3, h4⟩ := pick_d hc i s (l.length : Int) (by omega) (by omega) (by omega)
  obtain ⟨n, rfl⟩ := Int.eq_ofNat_of_zero_le hv.1
  have hn : n < l.length := by omega
  refine ⟨_, _, _, i2, s2, ev_bind e (ev_neg h0 (ev_const e2 (ev_pos (by omega) (ev_pos (by show (n : Int) < (l.length : Int); omega) (Ev.now _))))), ?_, by omega, by omega⟩
  show (rd_T89 l (n : Int)).f2.length ≤ 1000
  rw [PY.rdI_at l n hn]
  exact hl.2 _ (List.getElem_mem hn)
theorem goodBlock_d {c : List Int} (hc : Bys c) : ∃ a b l, Ev (fun k => spec_DrawGoodBlock.f k c) (a, b, l) ∧ l.length ≤ 1000 := by
 obtain ⟨a, b, l, i, s, e, hl, h1, h2⟩ := block_d hc
 obtain ⟨v, i2, s2, e2, _, h3, h4⟩ := one_d hc i s 12 (by omega) (by omega) (by omega)
 cases v with
 | true =>
  obtain ⟨m, i3, s3, e3, hm, _⟩ := items16_d hc i2 s2 (by omega) (by omega)
  exact ⟨a, b, m, ev_bind e (ev_const e2 (ev_pos rfl (ev_bind e3 (Ev.now _)))), hm⟩
 | false => exact ⟨a, b, l, ev_bind e (ev_const e2 (ev_neg (by simp) (Ev.now _))), hl⟩
theorem drawBytes {c : List Int} (hc : Bys c) : ∃ a b l, Ev (fun k => spec_DrawBlockBytes.f k c) (a, b, l) ∧ l.length ≤ 1000 := by
 obtain ⟨a, b, l, e, hl⟩ := goodBlock_d hc
 exact ⟨a, b, l, ev_bind e (Ev.now _), hl⟩
theorem drawDigest {c : List Int} (hc : Bys c) : ∃ a b l, Ev (fun k => spec_DrawBlockDigest.f k c) (a, b, l) ∧ l.length ≤ 1000 := by
 obtain ⟨a, b, l, e, hl⟩ := goodBlock_d hc
 exact ⟨a, b, l, ev_bind e (Ev.now _), hl⟩
theorem drawReadB {c : List Int} (hc : Bys c) : ∃ t, Ev (fun k => spec_DrawReadBlock.f k c) t := by
 obtain ⟨a, b, l, i, s, e, hl, h1, h2⟩ := block_d hc
 have hb := blkBytesS a b l (by omega)
 obtain ⟨v, i2, s2, e2, _, h3, h4⟩ := one_d hc i s 3 (by omega) (by omega) (by omega)
 have hz : (blkBytesM a b l).1.size ≤ 374 := by
  unfold blkBytesM
  by_cases h : blockB a b l = true
  ·rw [if_pos h]; exact blockM_size h
  ·rw [if_neg h]; exact Nat.zero_le _
 cases v with
 | true =>
  obtain ⟨t, i3, s3, e3, ht, _⟩ := spoilt_d hc i2 s2 (blkBytesM a b l).1 (⟨#[0, 3, 97, 255]⟩ : ByteArray) (by omega) (by decide) (by omega) (by omega)
  exact ⟨t, ev_bind e (ev_bind hb (ev_const e2 (ev_pos rfl (ev_bind e3 (Ev.now _)))))⟩
 | false => exact ⟨_, ev_bind e (ev_bind hb (ev_const e2 (ev_neg (by simp) (Ev.now _))))⟩
theorem drawPut {c : List Int} (hc : Bys c) : ∃ l a m, Ev (fun k => spec_DrawPutBlock.f k c) (l, a, m) ∧ Ch l ∧ m.length ≤ 1000 := by
 obtain ⟨l, i, s, e, hl, h1, h2⟩ := chain_d hc 0 0 (by omega) (by omega)
 obtain ⟨a, i2, s2, e2, ha, h3, h4⟩ := of_d hc i s [(⟨#[114, 111, 111, 116]⟩ : ByteArray), (⟨#[97, 98, 99]⟩ : ByteArray)] (by omega) (by omega) ⟨by simp, by simp⟩
 obtain ⟨m, i3, s3, e3, hm, _⟩ := items16_d hc i2 s2 (by omega) (by omega)
 exact ⟨l, a, m, ev_bind e (ev_const e2 (ev_bind e3 (Ev.now _))), hl, hm⟩
end Go.Proofs.Ythhkkhnjkoacnaa.QG
end
