/- For the law FnExactSealText (laid by merge.py). -/
import Derived.Test.YtmfipefpmjcddaaMFnExactSealTextc
import Derived.Laws.BitsLemmas
import Derived.Deep.Slices
import Derived.ChangeArms
import Derived.DataReads
section
namespace Go.Proofs.Ytmfipefpmjcddaa.PA
open Go.RowKit Go.Proofs.YtmfipefpmjcddaaW.PrintWords Go.Proofs.YtmfipefpmjcddaaW.PrintLast Go.Proofs.YtmfipefpmjcddaaW.PrintMore
attribute [local go_sem] max2_int min2_int max_two min_two max_three min_three max_four min_four
set_option linter.unusedVariables false
set_option linter.unusedSimpArgs false
set_option maxHeartbeats 60000000
set_option maxRecDepth 100000
mutual
def laws_FnExactSealText.j0 : Nat → ByteArray → Bool → Bool → ByteArray → Int → ByteArray → Int → Int → List ByteArray → List ByteArray → Int → List ByteArray → List ByteArray → Option (Bool)
 | 0, _, _, _, _, _, _, _, _, _, _, _, _, _ => none
 | k + 1, x1, x8, x55, x10, x11, x13, x14, x15, x16, x17, x18, x19, x20 => if x55 = true then (some false) else ((laws_markSeal.f k x18 x19 x20 1).bind fun bt21 => ((laws_heldSeal.f k x18 bt21.2.1 bt21.2.2 1).bind fun t22 => (if t22 < 0 then (some false) else (if t22 = bt21.1 then ((laws_toSigner.f x10 x11).bind fun bt23 => ((impl_SealText.f k bt23.1 bt23.2 x1).bind fun bt24 => ((laws_eqSigner.f bt24.1 bt24.2.1 x13 x14).bind fun t25 => (if t25 = true then ((laws_eqSeal.f k bt24.2.2.1 bt24.2.2.2.1 bt24.2.2.2.2.1 x15 x16 x17).bind fun t26 => (if t26 = true then (laws_FnExactSealText.j1 k bt21.1 (bt24.2.2.2.2.2 != x8) x18 bt21.2.1 bt21.2.2) else (laws_FnExactSealText.j1 k bt21.1 true x18 bt21.2.1 bt21.2.2))) else (laws_FnExactSealText.j1 k bt21.1 true x18 bt21.2.1 bt21.2.2))))) else (some false)))))
def laws_FnExactSealText.j1 : Nat → Int → Bool → Int → List ByteArray → List ByteArray → Option (Bool)
 | 0, _, _, _, _, _ => none
 | k + 1, x12, x89, x18, x19, x20 => if x89 = true then (some false) else ((laws_heldSeal.f k x18 x19 x20 1).bind fun t27 => (if t27 < 0 then (some false) else (if t27 = x12 then (some true) else (some false))))
end
def laws_FnExactSealText.f (k : Nat) (a0_0 : ByteArray) (a0_1 : Int) (a1 : ByteArray) : Option (Bool) := if (a1.size : Int) > 1048576 then (some true) else ((laws_szSigner.f a0_0 a0_1 1048576).bind fun t10 => (if t10 < 0 then (some true) else ((laws_toSigner.f a0_0 a0_1).bind fun bt11 => ((spec_SealText.f k bt11.1 bt11.2 a1).bind fun bt12 => ((laws_toSigner.f a0_0 a0_1).bind fun bt13 => ((impl_SealText.f k bt13.1 bt13.2 a1).bind fun bt14 => ((laws_eqSigner.f bt14.1 bt14.2.1 bt12.1 bt12.2.1).bind fun t15 => (if t15 = true then ((laws_eqSeal.f k bt14.2.2.1 bt14.2.2.2.1 bt14.2.2.2.2.1 bt12.2.2.1 bt12.2.2.2.1 bt12.2.2.2.2.1).bind fun t16 => (if t16 = true then (laws_FnExactSealText.j0 k a1 bt12.2.2.2.2.2 (bt14.2.2.2.2.2 != bt12.2.2.2.2.2) a0_0 a0_1 bt12.1 bt12.2.1 bt12.2.2.1 bt12.2.2.2.1 bt12.2.2.2.2.1 bt14.2.2.1 bt14.2.2.2.1 bt14.2.2.2.2.1) else (laws_FnExactSealText.j0 k a1 bt12.2.2.2.2.2 true a0_0 a0_1 bt12.1 bt12.2.1 bt12.2.2.1 bt12.2.2.2.1 bt12.2.2.2.2.1 bt14.2.2.1 bt14.2.2.2.1 bt14.2.2.2.2.1))) else (laws_FnExactSealText.j0 k a1 bt12.2.2.2.2.2 true a0_0 a0_1 bt12.1 bt12.2.1 bt12.2.2.1 bt12.2.2.2.1 bt12.2.2.2.2.1 bt14.2.2.1 bt14.2.2.2.1 bt14.2.2.2.2.1)))))))))
theorem laws_FnExactSealText.calls (k : Nat) (a0_0 : ByteArray) (a0_1 : Int) (a1 : ByteArray) (r : Bool) (w : World) (h : laws_FnExactSealText.f k a0_0 a0_1 a1 = some r) (hr_ : Aside0 (r = true)) :
  Calls Try.prog 4 #[.agg #[.string a0_0, .int .i64 a0_1], .string a1] w fun e w' => e = .returned (.bool r) ∧ Below w.heap.size w w' := by
 have hu43 := Try.underlying43; have hu45 := Try.underlying45; have hu47 := Try.underlying47; have HB := zA (Below.refl w.heap.size w); have H : (if (a1.size : Int) > 1048576 then (some true) else ((laws_szSigner.f a0_0 a0_1 1048576).bind fun t100 => (if t100 < 0 then (some true) else ((laws_toSigner.f a0_0 a0_1).bind fun bt320 => ((spec_SealText.f k bt320.1 bt320.2 a1).bind fun bt322 => ((laws_toSigner.f a0_0 a0_1).bind fun bt334 => ((impl_SealText.f k bt334.1 bt334.2 a1).bind fun bt336 => ((laws_eqSigner.f bt336.1 bt336.2.1 bt322.1 bt322.2.1).bind fun t348 => (if t348 = true then ((laws_eqSeal.f k bt336.2.2.1 bt336.2.2.2.1 bt336.2.2.2.2.1 bt322.2.2.1 bt322.2.2.2.1 bt322.2.2.2.2.1).bind fun t349 => (if t349 = true then (laws_FnExactSealText.j0 k a1 bt322.2.2.2.2.2 (bt336.2.2.2.2.2 != bt322.2.2.2.2.2) a0_0 a0_1 bt322.1 bt322.2.1 bt322.2.2.1 bt322.2.2.2.1 bt322.2.2.2.2.1 bt336.2.2.1 bt336.2.2.2.1 bt336.2.2.2.2.1) else (laws_FnExactSealText.j0 k a1 bt322.2.2.2.2.2 true a0_0 a0_1 bt322.1 bt322.2.1 bt322.2.2.1 bt322.2.2.2.1 bt322.2.2.2.2.1 bt336.2.2.1 bt336.2.2.2.1 bt336.2.2.2.2.1))) else (laws_FnExactSealText.j0 k a1 bt322.2.2.2.2.2 true a0_0 a0_1 bt322.1 bt322.2.1 bt322.2.2.1 bt322.2.2.2.1 bt322.2.2.2.2.1 bt336.2.2.1 bt336.2.2.2.1 bt336.2.2.2.2.1)))))))))) = some r := h; clear h
 by_cases c3 : (a1.size : Int) > 1048576
 ·rw [if_pos c3] at H
  have c3b0 : decide (1048576 < (a1.size : Int)) = true := zX c3; have c3b1 : decide (1048576 < a1.size) = true := zX (by omega); clear c3; obtain rfl := yM H; go_enter Try.func4, Try.ntmps4; go_wp2_with (first | ((with_reducible refine gate_dst (N := 2) rfl ?_); refine box_event ?hg (N := 2) ?hd (cs := #[.string a0_0, .int .i64 a0_1]) (t := 43) ?hr ?_; (case hd => rfl); (case hg => rfl); (case hr => first | (go_simp; done) | (go_simp; rfl)); intro gb318 hg w4 hbox hb; have n0_ := zA (zAD (by (with_reducible repeat first | exact HB.out | apply zH | apply zF | apply zG) <;> exact HB.out) hb); have n1_ := zA (hbox); have n2_ := zA ((by rw [hg]; exact (zAE (by (with_reducible repeat first | exact HB.out | apply zH | apply zF | apply zG) <;> exact HB.out)) : w.heap.size ≤ gb318)); have n3_ := zA ((by rw [hg]; exact (zAE (by (with_reducible repeat first | exact HB.out | apply zH | apply zF | apply zG) <;> exact HB.out)) : w.heap.size ≤ gb318)); clear HB; have HB := n0_; have BK318 := n1_; have GW318 := n2_; have GE318 := n3_; clear n0_ n1_ n2_ n3_; clear hb hbox hg)); go_ret; exact ⟨by first | rfl | (simp <;> rfl) | (simp [*] <;> rfl), by repeat (first | (with_reducible first | exact HB.out | apply zH | apply zF | apply zG | refine zI ?_ GE318.out) | exact HB.out)⟩
 ·rw [if_neg c3] at H
  have c3b0 : decide (1048576 < (a1.size : Int)) = false := decide_eq_false c3; have c3b1 : decide (1048576 < a1.size) = false := decide_eq_false (by omega); clear c3; replace H := zAF H; obtain ⟨t100, A50, H⟩ := H; replace H : (if t100 < 0 then (some true) else ((laws_toSigner.f a0_0 a0_1).bind fun bt320 => ((spec_SealText.f k bt320.1 bt320.2 a1).bind fun bt322 => ((laws_toSigner.f a0_0 a0_1).bind fun bt334 => ((impl_SealText.f k bt334.1 bt334.2 a1).bind fun bt336 => ((laws_eqSigner.f bt336.1 bt336.2.1 bt322.1 bt322.2.1).bind fun t348 => (if t348 = true then ((laws_eqSeal.f k bt336.2.2.1 bt336.2.2.2.1 bt336.2.2.2.2.1 bt322.2.2.1 bt322.2.2.2.1 bt322.2.2.2.2.1).bind fun t349 => (if t349 = true then (laws_FnExactSealText.j0 k a1 bt322.2.2.2.2.2 (bt336.2.2.2.2.2 != bt322.2.2.2.2.2) a0_0 a0_1 bt322.1 bt322.2.1 bt322.2.2.1 bt322.2.2.2.1 bt322.2.2.2.2.1 bt336.2.2.1 bt336.2.2.2.1 bt336.2.2.2.2.1) else (laws_FnExactSealText.j0 k a1 bt322.2.2.2.2.2 true a0_0 a0_1 bt322.1 bt322.2.1 bt322.2.2.1 bt322.2.2.2.1 bt322.2.2.2.2.1 bt336.2.2.1 bt336.2.2.2.1 bt336.2.2.2.2.1))) else (laws_FnExactSealText.j0 k a1 bt322.2.2.2.2.2 true a0_0 a0_1 bt322.1 bt322.2.1 bt322.2.2.1 bt322.2.2.2.1 bt322.2.2.2.2.1 bt336.2.2.1 bt336.2.2.2.1 bt336.2.2.2.2.1)))))))) = some r := H; have A5 := zA A50; clear A50
  by_cases c6 : t100 < 0
  ·rw [if_pos c6] at H
   have c6b0 : decide (t100 < 0) = true := zX c6; clear c6; obtain rfl := yM H; go_enter Try.func4, Try.ntmps4; go_wp2_with (first | ((with_reducible refine gate_dst (N := 2) rfl ?_); refine box_event ?hg (N := 2) ?hd (cs := #[.string a0_0, .int .i64 a0_1]) (t := 43) ?hr ?_; (case hd => rfl); (case hg => rfl); (case hr => first | (go_simp; done) | (go_simp; rfl)); intro gb318 hg w7 hbox hb; have n0_ := zA (zAD (by (with_reducible repeat first | exact HB.out | apply zH | apply zF | apply zG) <;> exact HB.out) hb); have n1_ := zA (hbox); have n2_ := zA ((by rw [hg]; exact (zAE (by (with_reducible repeat first | exact HB.out | apply zH | apply zF | apply zG) <;> exact HB.out)) : w.heap.size ≤ gb318)); have n3_ := zA ((by rw [hg]; exact (zAE (by (with_reducible repeat first | exact HB.out | apply zH | apply zF | apply zG) <;> exact HB.out)) : w.heap.size ≤ gb318)); clear HB; have HB := n0_; have BK318 := n1_; have GW318 := n2_; have GE318 := n3_; clear n0_ n1_ n2_ n3_; clear hb hbox hg; have hcz8_0 := yL BK318.out 0 (.string a0_0) rfl; have hcz8_1 := yL BK318.out 1 (.int .i64 a0_1) rfl; have hfz8_0 := zO BK318.out 0; have hfz8_1 := zO BK318.out 1) | ((with_reducible refine yB (f := 22) rfl ?_); refine goesL_ (some 22) rfl rfl Try.func22 (by kernel_rfl) rfl #[.agg #[.string a0_0, .int .i64 a0_1], .int .i64 1048576] rfl (by (try simp only [zAA, zAB, zAC]); first | done | rfl) ?_; (with_reducible refine (laws_szSigner.calls a0_0 a0_1 1048576 t100 _ A5.out).mono ?_); rintro e w9 ⟨rfl, hb⟩; refine ⟨_, rfl, ?_⟩; have n0_ := zA (yE (g := gb318) (o := .cells #[.string a0_0, .int .i64 a0_1] 43 (0, 0)) (by (with_reducible repeat (first | refine zL ?_ _ | refine zN ?_ | refine zM ?_ _)); exact BK318.out) hb); have n1_ := zA (zAD (by repeat (first | (with_reducible first | exact HB.out | apply zH | apply zF | apply zG | refine zI ?_ GE318.out) | exact HB.out)) hb); clear BK318; clear HB; have BK318 := n0_; have HB := n1_; clear n0_ n1_; (try clear hb))); go_ret; exact ⟨by first | rfl | (simp <;> rfl) | (simp [*] <;> rfl), by repeat (first | (with_reducible first | exact HB.out | apply zH | apply zF | apply zG | refine zI ?_ GE318.out) | exact HB.out)⟩
  ·rw [if_neg c6] at H
   have c6b0 : decide (t100 < 0) = false := decide_eq_false c6; clear c6; replace H := zAF H; obtain ⟨⟨t320, t321⟩, A100, H⟩ := H; replace H : ((spec_SealText.f k t320 t321 a1).bind fun bt322 => ((laws_toSigner.f a0_0 a0_1).bind fun bt334 => ((impl_SealText.f k bt334.1 bt334.2 a1).bind fun bt336 => ((laws_eqSigner.f bt336.1 bt336.2.1 bt322.1 bt322.2.1).bind fun t348 => (if t348 = true then ((laws_eqSeal.f k bt336.2.2.1 bt336.2.2.2.1 bt336.2.2.2.2.1 bt322.2.2.1 bt322.2.2.2.1 bt322.2.2.2.2.1).bind fun t349 => (if t349 = true then (laws_FnExactSealText.j0 k a1 bt322.2.2.2.2.2 (bt336.2.2.2.2.2 != bt322.2.2.2.2.2) a0_0 a0_1 bt322.1 bt322.2.1 bt322.2.2.1 bt322.2.2.2.1 bt322.2.2.2.2.1 bt336.2.2.1 bt336.2.2.2.1 bt336.2.2.2.2.1) else (laws_FnExactSealText.j0 k a1 bt322.2.2.2.2.2 true a0_0 a0_1 bt322.1 bt322.2.1 bt322.2.2.1 bt322.2.2.2.1 bt322.2.2.2.2.1 bt336.2.2.1 bt336.2.2.2.1 bt336.2.2.2.2.1))) else (laws_FnExactSealText.j0 k a1 bt322.2.2.2.2.2 true a0_0 a0_1 bt322.1 bt322.2.1 bt322.2.2.1 bt322.2.2.2.1 bt322.2.2.2.2.1 bt336.2.2.1 bt336.2.2.2.1 bt336.2.2.2.2.1)))))) = some r := H; have A10 := zA A100; clear A100; replace H := zAF H; obtain ⟨⟨t322, t323, t324, t325, t328, t331⟩, A110, H⟩ := H; replace H : ((laws_toSigner.f a0_0 a0_1).bind fun bt334 => ((impl_SealText.f k bt334.1 bt334.2 a1).bind fun bt336 => ((laws_eqSigner.f bt336.1 bt336.2.1 t322 t323).bind fun t348 => (if t348 = true then ((laws_eqSeal.f k bt336.2.2.1 bt336.2.2.2.1 bt336.2.2.2.2.1 t324 t325 t328).bind fun t349 => (if t349 = true then (laws_FnExactSealText.j0 k a1 t331 (bt336.2.2.2.2.2 != t331) a0_0 a0_1 t322 t323 t324 t325 t328 bt336.2.2.1 bt336.2.2.2.1 bt336.2.2.2.2.1) else (laws_FnExactSealText.j0 k a1 t331 true a0_0 a0_1 t322 t323 t324 t325 t328 bt336.2.2.1 bt336.2.2.2.1 bt336.2.2.2.2.1))) else (laws_FnExactSealText.j0 k a1 t331 true a0_0 a0_1 t322 t323 t324 t325 t328 bt336.2.2.1 bt336.2.2.2.1 bt336.2.2.2.2.1))))) = some r := H; have A11 := zA A110; clear A110; replace H := zAF H; obtain ⟨⟨t334, t335⟩, A120, H⟩ := H; replace H : ((impl_SealText.f k t334 t335 a1).bind fun bt336 => ((laws_eqSigner.f bt336.1 bt336.2.1 t322 t323).bind fun t348 => (if t348 = true then ((laws_eqSeal.f k bt336.2.2.1 bt336.2.2.2.1 bt336.2.2.2.2.1 t324 t325 t328).bind fun t349 => (if t349 = true then (laws_FnExactSealText.j0 k a1 t331 (bt336.2.2.2.2.2 != t331) a0_0 a0_1 t322 t323 t324 t325 t328 bt336.2.2.1 bt336.2.2.2.1 bt336.2.2.2.2.1) else (laws_FnExactSealText.j0 k a1 t331 true a0_0 a0_1 t322 t323 t324 t325 t328 bt336.2.2.1 bt336.2.2.2.1 bt336.2.2.2.2.1))) else (laws_FnExactSealText.j0 k a1 t331 true a0_0 a0_1 t322 t323 t324 t325 t328 bt336.2.2.1 bt336.2.2.2.1 bt336.2.2.2.2.1)))) = some r := H; have A12 := zA A120; clear A120; replace H := zAF H; obtain ⟨⟨t336, t337, t338, t339, t342, t345⟩, A130, H⟩ := H; replace H : ((laws_eqSigner.f t336 t337 t322 t323).bind fun t348 => (if t348 = true then ((laws_eqSeal.f k t338 t339 t342 t324 t325 t328).bind fun t349 => (if t349 = true then (laws_FnExactSealText.j0 k a1 t331 (t345 != t331) a0_0 a0_1 t322 t323 t324 t325 t328 t338 t339 t342) else (laws_FnExactSealText.j0 k a1 t331 true a0_0 a0_1 t322 t323 t324 t325 t328 t338 t339 t342))) else (laws_FnExactSealText.j0 k a1 t331 true a0_0 a0_1 t322 t323 t324 t325 t328 t338 t339 t342))) = some r := H; have A13 := zA A130; clear A130; have HC14 := zA H; clear H; go_enter Try.func4, Try.ntmps4; go_upto_region 9 with (first | ((with_reducible refine gate_dst (N := 2) rfl ?_); refine box_event ?hg (N := 2) ?hd (cs := #[.string a0_0, .int .i64 a0_1]) (t := 43) ?hr ?_; (case hd => rfl); (case hg => rfl); (case hr => first | (go_simp; done) | (go_simp; rfl)); intro gb318 hg w15 hbox hb; have n0_ := zA (zAD (by (with_reducible repeat first | exact HB.out | apply zH | apply zF | apply zG) <;> exact HB.out) hb); have n1_ := zA (hbox); have n2_ := zA ((by rw [hg]; exact (zAE (by (with_reducible repeat first | exact HB.out | apply zH | apply zF | apply zG) <;> exact HB.out)) : w.heap.size ≤ gb318)); have n3_ := zA ((by rw [hg]; exact (zAE (by (with_reducible repeat first | exact HB.out | apply zH | apply zF | apply zG) <;> exact HB.out)) : w.heap.size ≤ gb318)); clear HB; have HB := n0_; have BK318 := n1_; have GW318 := n2_; have GE318 := n3_; clear n0_ n1_ n2_ n3_; clear hb hbox hg; have hcz16_0 := yL BK318.out 0 (.string a0_0) rfl; have hcz16_1 := yL BK318.out 1 (.int .i64 a0_1) rfl; have hfz16_0 := zO BK318.out 0; have hfz16_1 := zO BK318.out 1) | ((with_reducible refine yB (f := 22) rfl ?_); refine goesL_ (some 22) rfl rfl Try.func22 (by kernel_rfl) rfl #[.agg #[.string a0_0, .int .i64 a0_1], .int .i64 1048576] rfl (by (try simp only [zAA, zAB, zAC]); first | done | rfl) ?_; (with_reducible refine (laws_szSigner.calls a0_0 a0_1 1048576 t100 _ A5.out).mono ?_); rintro e w17 ⟨rfl, hb⟩; refine ⟨_, rfl, ?_⟩; have n0_ := zA (yE (g := gb318) (o := .cells #[.string a0_0, .int .i64 a0_1] 43 (0, 0)) (by (with_reducible repeat (first | refine zL ?_ _ | refine zN ?_ | refine zM ?_ _)); exact BK318.out) hb); have n1_ := zA (zAD (by repeat (first | (with_reducible first | exact HB.out | apply zH | apply zF | apply zG | refine zI ?_ GE318.out) | exact HB.out)) hb); clear BK318; clear HB; have BK318 := n0_; have HB := n1_; clear n0_ n1_; (try clear hb); have hcz18_0 := yL BK318.out 0 (.string a0_0) rfl; have hcz18_1 := yL BK318.out 1 (.int .i64 a0_1) rfl; have hfz18_0 := zO BK318.out 0; have hfz18_1 := zO BK318.out 1) | ((with_reducible refine yB (f := 24) rfl ?_); refine goesL_ (some 27) rfl rfl Try.func24 (by kernel_rfl) rfl #[.agg #[.string a0_0, .int .i64 a0_1]] rfl (by (try simp only [zAA, zAB, zAC]); first | done | rfl) ?_; (with_reducible refine (laws_toSigner.calls a0_0 a0_1 t320 t321 _ A10.out).mono ?_); rintro e w19 ⟨rfl, hb⟩; refine ⟨_, rfl, ?_⟩; have n0_ := zA (yE (g := gb318) (o := .cells #[.string a0_0, .int .i64 a0_1] 43 (0, 0)) (by (with_reducible repeat (first | refine zL ?_ _ | refine zN ?_ | refine zM ?_ _)); exact BK318.out) hb); have n1_ := zA (zAD (by repeat (first | (with_reducible first | exact HB.out | apply zH | apply zF | apply zG | refine zI ?_ GE318.out) | exact HB.out)) hb); clear BK318; clear HB; have BK318 := n0_; have HB := n1_; clear n0_ n1_; (try clear hb)) | ((with_reducible refine yB (f := 23) rfl ?_); refine goesL_ (some 29) rfl rfl Try.func23 (by kernel_rfl) rfl #[.agg #[.string t320, .int .i64 t321], .string a1] rfl (by (try simp only [zAA, zAB, zAC]); first | done | rfl) ?_; (with_reducible refine (spec_SealText.calls k t320 t321 a1 t322 t323 t324 t325 t328 t331 _ A11.out).mono ?_); rintro e w20 ⟨v326, v329, rfl, ho0, ho1, hb⟩; refine ⟨_, rfl, ?_⟩; have n0_ := zA (Kd.R_lower ho0 (zAE (by repeat (first | (with_reducible first | exact HB.out | apply zH | apply zF | apply zG | refine zI ?_ GE318.out) | exact HB.out)))); have n1_ := zA (Kd.R_lower ho1 (zAE (by repeat (first | (with_reducible first | exact HB.out | apply zH | apply zF | apply zG | refine zI ?_ GE318.out) | exact HB.out)))); have n2_ := zA (yE (g := gb318) (o := .cells #[.string a0_0, .int .i64 a0_1] 43 (0, 0)) (by (with_reducible repeat (first | refine zL ?_ _ | refine zN ?_ | refine zM ?_ _)); exact BK318.out) hb); have n3_ := zA (zAD (by repeat (first | (with_reducible first | exact HB.out | apply zH | apply zF | apply zG | refine zI ?_ GE318.out) | exact HB.out)) hb); clear BK318; clear HB; have HO327 := n0_; have HO330 := n1_; have BK318 := n2_; have HB := n3_; clear n0_ n1_ n2_ n3_; (try clear hb); (try clear ho0); (try clear ho1)) | ((with_reducible refine gate_dst (N := 6) rfl ?_); refine box_event ?hg (N := 6) ?hd (cs := #[.string (⟨#[]⟩ : ByteArray), .int .i64 0]) (t := 45) ?hr ?_; (case hd => rfl); (case hg => rfl); (case hr => first | (go_simp; done) | (go_simp; rfl)); intro gb332 hg w21 hbox hb; have n0_ := zA (Kd.R_below (by (with_reducible repeat first | apply zQ | apply zR | apply zS); exact HO327.out) hb); have n1_ := zA (Kd.R_below (by (with_reducible repeat first | apply zQ | apply zR | apply zS); exact HO330.out) hb); have n2_ := zA (yE (g := gb318) (o := .cells #[.string a0_0, .int .i64 a0_1] 43 (0, 0)) (by (with_reducible repeat (first | refine zL ?_ _ | refine zN ?_ | refine zM ?_ _)); exact BK318.out) hb); have n3_ := zA (zAD (by repeat (first | (with_reducible first | exact HB.out | apply zH | apply zF | apply zG | refine zI ?_ GE318.out) | exact HB.out)) hb); have n4_ := zA (hbox); have n5_ := zA ((by rw [hg]; exact (zAE (by repeat (first | (with_reducible first | exact HB.out | apply zH | apply zF | apply zG | refine zI ?_ GE318.out) | exact HB.out))) : w.heap.size ≤ gb332)); have n6_ := zA ((by rw [hg]; exact (zAE (by repeat (first | (with_reducible first | exact HB.out | apply zH | apply zF | apply zG | refine zI ?_ GE318.out) | exact HB.out))) : w.heap.size ≤ gb332)); have n7_ := zA ((by rw [hg]; exact zK (blk_lt (g := gb318) (o := .cells #[.string a0_0, .int .i64 a0_1] 43 (0, 0)) (by (with_reducible repeat (first | refine zL ?_ _ | refine zN ?_ | refine zM ?_ _)); exact BK318.out)) : gb318 ≠ gb332)); have n8_ := zA ((by rw [hg]; exact Nat.ne_of_gt (blk_lt (g := gb318) (o := .cells #[.string a0_0, .int .i64 a0_1] 43 (0, 0)) (by (with_reducible repeat (first | refine zL ?_ _ | refine zN ?_ | refine zM ?_ _)); exact BK318.out)) : gb332 ≠ gb318)); clear HO327; clear HO330; clear BK318; clear HB; have HO327 := n0_; have HO330 := n1_; have BK318 := n2_; have HB := n3_; have BK332 := n4_; have GW332 := n5_; have GE332 := n6_; have NB318_332 := n7_; have NB332_318 := n8_; clear n0_ n1_ n2_ n3_ n4_ n5_ n6_ n7_ n8_; clear hb hbox hg) | ((with_reducible refine gate_dst (N := 7) rfl ?_); refine box_event ?hg (N := 7) ?hd (cs := #[.int .i64 0, .slice none 0 0, .slice none 0 0]) (t := 47) ?hr ?_; (case hd => rfl); (case hg => rfl); (case hr => first | (go_simp; done) | (go_simp; rfl)); intro gb333 hg w22 hbox hb; have n0_ := zA (Kd.R_below (by (with_reducible repeat first | apply zQ | apply zR | apply zS); exact HO327.out) hb); have n1_ := zA (Kd.R_below (by (with_reducible repeat first | apply zQ | apply zR | apply zS); exact HO330.out) hb); have n2_ := zA (yE (g := gb318) (o := .cells #[.string a0_0, .int .i64 a0_1] 43 (0, 0)) (by (with_reducible repeat (first | refine zL ?_ _ | refine zN ?_ | refine zM ?_ _)); exact BK318.out) hb); have n3_ := zA (yE (g := gb332) (o := .cells #[.string (⟨#[]⟩ : ByteArray), .int .i64 0] 45 (0, 0)) (by (with_reducible repeat (first | refine zL ?_ _ | refine zN ?_ | refine zM ?_ _)); exact BK332.out) hb); have n4_ := zA (zAD (by repeat (first | (with_reducible first | exact HB.out | apply zH | apply zF | apply zG | refine zI ?_ GE318.out | refine zI ?_ GE332.out) | exact HB.out)) hb); have n5_ := zA (hbox); have n6_ := zA ((by rw [hg]; exact (zAE (by repeat (first | (with_reducible first | exact HB.out | apply zH | apply zF | apply zG | refine zI ?_ GE318.out | refine zI ?_ GE332.out) | exact HB.out))) : w.heap.size ≤ gb333)); have n7_ := zA ((by rw [hg]; exact (zAE (by repeat (first | (with_reducible first | exact HB.out | apply zH | apply zF | apply zG | refine zI ?_ GE318.out | refine zI ?_ GE332.out) | exact HB.out))) : w.heap.size ≤ gb333)); have n8_ := zA ((by rw [hg]; exact zK (blk_lt (g := gb318) (o := .cells #[.string a0_0, .int .i64 a0_1] 43 (0, 0)) (by (with_reducible repeat (first | refine zL ?_ _ | refine zN ?_ | refine zM ?_ _)); exact BK318.out)) : gb318 ≠ gb333)); have n9_ := zA ((by rw [hg]; exact Nat.ne_of_gt (blk_lt (g := gb318) (o := .cells #[.string a0_0, .int .i64 a0_1] 43 (0, 0)) (by (with_reducible repeat (first | refine zL ?_ _ | refine zN ?_ | refine zM ?_ _)); exact BK318.out)) : gb333 ≠ gb318)); have n10_ := zA ((by rw [hg]; exact zK (blk_lt (g := gb332) (o := .cells #[.string (⟨#[]⟩ : ByteArray), .int .i64 0] 45 (0, 0)) (by (with_reducible repeat (first | refine zL ?_ _ | refine zN ?_ | refine zM ?_ _)); exact BK332.out)) : gb332 ≠ gb333)); have n11_ := zA ((by rw [hg]; exact Nat.ne_of_gt (blk_lt (g := gb332) (o := .cells #[.string (⟨#[]⟩ : ByteArray), .int .i64 0] 45 (0, 0)) (by (with_reducible repeat (first | refine zL ?_ _ | refine zN ?_ | refine zM ?_ _)); exact BK332.out)) : gb333 ≠ gb332)); clear HO327; clear HO330; clear BK318; clear BK332; clear HB; have HO327 := n0_; have HO330 := n1_; have BK318 := n2_; have BK332 := n3_; have HB := n4_; have BK333 := n5_; have GW333 := n6_; have GE333 := n7_; have NB318_333 := n8_; have NB333_318 := n9_; have NB332_333 := n10_; have NB333_332 := n11_; clear n0_ n1_ n2_ n3_ n4_ n5_ n6_ n7_ n8_ n9_ n10_ n11_; clear hb hbox hg; have hnb23 := NB332_318.out; have hnc23 := NB318_332.out; have hnb24 := NB332_333.out; have hnc24 := NB333_332.out; have hcz25_0 := yL BK332.out 0 (.string (⟨#[]⟩ : ByteArray)) rfl; have hcz25_1 := yL BK332.out 1 (.int .i64 0) rfl; have hfz25_0 := zO BK332.out 0; have hfz25_1 := zO BK332.out 1; have hnb26 := NB333_318.out; have hnc26 := NB318_333.out; have hcz27_0 := yL BK333.out 0 (.int .i64 0) rfl; have hcz27_1 := yL BK333.out 1 (.slice none 0 0) rfl; have hcz27_2 := yL BK333.out 2 (.slice none 0 0) rfl; have hfz27_0 := zO BK333.out 0; have hfz27_1 := zO BK333.out 1; have hfz27_2 := zO BK333.out 2; obtain ⟨Ao28, co28, eo28⟩ := Kd.R_slice HO327.out; subst eo28; obtain ⟨Ao29, co29, eo29⟩ := Kd.R_slice HO330.out; subst eo29; have hcz30_0 := yL BK318.out 0 (.string a0_0) rfl; have hcz30_1 := yL BK318.out 1 (.int .i64 a0_1) rfl; have hfz30_0 := zO BK318.out 0; have hfz30_1 := zO BK318.out 1) | ((with_reducible refine yB (f := 24) rfl ?_); refine goesL_ (some 35) rfl rfl Try.func24 (by kernel_rfl) rfl #[.agg #[.string a0_0, .int .i64 a0_1]] rfl (by (try simp only [zAA, zAB, zAC]); first | done | rfl) ?_; (with_reducible refine (laws_toSigner.calls a0_0 a0_1 t334 t335 _ A12.out).mono ?_); rintro e w31 ⟨rfl, hb⟩; refine ⟨_, rfl, ?_⟩; have n0_ := zA (Kd.R_below (by (with_reducible repeat first | apply zQ | apply zR | apply zS); exact (yC (yC (Kd.R_far (p := ⟨gb333, 2, none⟩) (Kd.R_far (p := ⟨gb333, 1, none⟩) (Kd.R_far (p := ⟨gb333, 0, none⟩) (Kd.R_far (p := ⟨gb332, 1, none⟩) (Kd.R_far (p := ⟨gb332, 0, none⟩) (Kd.R_types (Kd.R_types HO327.out BK332.out (by decide)) BK333.out (by decide)) (fun _ hk => hk.1.2) (.string t322)) (fun _ hk => hk.1.2) (.int .i64 t323)) (fun _ hk => hk.2) (.int .i64 t324)) (fun _ hk => hk.2) (.slice Ao28 t325.length co28)) (fun _ hk => hk.2) (.slice Ao29 t328.length co29)) (fun _ h_ => h_.1)) (fun _ h_ => h_.1))) hb); have n1_ := zA (Kd.R_below (by (with_reducible repeat first | apply zQ | apply zR | apply zS); exact (yC (yC (Kd.R_far (p := ⟨gb333, 2, none⟩) (Kd.R_far (p := ⟨gb333, 1, none⟩) (Kd.R_far (p := ⟨gb333, 0, none⟩) (Kd.R_far (p := ⟨gb332, 1, none⟩) (Kd.R_far (p := ⟨gb332, 0, none⟩) (Kd.R_types (Kd.R_types HO330.out BK332.out (by decide)) BK333.out (by decide)) (fun _ hk => hk.1.2) (.string t322)) (fun _ hk => hk.1.2) (.int .i64 t323)) (fun _ hk => hk.2) (.int .i64 t324)) (fun _ hk => hk.2) (.slice Ao28 t325.length co28)) (fun _ hk => hk.2) (.slice Ao29 t328.length co29)) (fun _ h_ => h_.1)) (fun _ h_ => h_.1))) hb); have n2_ := zA (yE (g := gb318) (o := .cells #[.string a0_0, .int .i64 a0_1] 43 (0, 0)) (by (with_reducible repeat (first | refine zL ?_ _ | refine zN ?_ | refine zM ?_ _)); refine blk_far ?_ NB318_333.out _; (with_reducible repeat (first | refine zL ?_ _ | refine zN ?_ | refine zM ?_ _)); refine blk_far ?_ NB318_333.out _; (with_reducible repeat (first | refine zL ?_ _ | refine zN ?_ | refine zM ?_ _)); refine blk_far ?_ NB318_333.out _; (with_reducible repeat (first | refine zL ?_ _ | refine zN ?_ | refine zM ?_ _)); refine blk_far ?_ NB318_332.out _; (with_reducible repeat (first | refine zL ?_ _ | refine zN ?_ | refine zM ?_ _)); refine blk_far ?_ NB318_332.out _; (with_reducible repeat (first | refine zL ?_ _ | refine zN ?_ | refine zM ?_ _)); exact BK318.out) hb); have n3_ := zA (yE (g := gb332) (o := .cells #[.string t322, .int .i64 t323] 45 (0, 0)) (by (with_reducible repeat (first | refine zL ?_ _ | refine zN ?_ | refine zM ?_ _)); refine blk_far ?_ NB332_333.out _; (with_reducible repeat (first | refine zL ?_ _ | refine zN ?_ | refine zM ?_ _)); refine blk_far ?_ NB332_333.out _; (with_reducible repeat (first | refine zL ?_ _ | refine zN ?_ | refine zM ?_ _)); refine blk_far ?_ NB332_333.out _; (with_reducible repeat (first | refine zL ?_ _ | refine zN ?_ | refine zM ?_ _)); refine blk_put (cs := #[.string t322, .int .i64 0]) ?_ 1 _ rfl; (with_reducible repeat (first | refine zL ?_ _ | refine zN ?_ | refine zM ?_ _)); refine blk_put (cs := #[.string (⟨#[]⟩ : ByteArray), .int .i64 0]) ?_ 0 _ rfl; (with_reducible repeat (first | refine zL ?_ _ | refine zN ?_ | refine zM ?_ _)); exact BK332.out) hb); have n4_ := zA (yE (g := gb333) (o := .cells #[.int .i64 t324, .slice Ao28 t325.length co28, .slice Ao29 t328.length co29] 47 (0, 0)) (by (with_reducible repeat (first | refine zL ?_ _ | refine zN ?_ | refine zM ?_ _)); refine blk_put (cs := #[.int .i64 t324, .slice Ao28 t325.length co28, .slice none 0 0]) ?_ 2 _ rfl; (with_reducible repeat (first | refine zL ?_ _ | refine zN ?_ | refine zM ?_ _)); refine blk_put (cs := #[.int .i64 t324, .slice none 0 0, .slice none 0 0]) ?_ 1 _ rfl; (with_reducible repeat (first | refine zL ?_ _ | refine zN ?_ | refine zM ?_ _)); refine blk_put (cs := #[.int .i64 0, .slice none 0 0, .slice none 0 0]) ?_ 0 _ rfl; (with_reducible repeat (first | refine zL ?_ _ | refine zN ?_ | refine zM ?_ _)); refine blk_far ?_ NB333_332.out _; (with_reducible repeat (first | refine zL ?_ _ | refine zN ?_ | refine zM ?_ _)); refine blk_far ?_ NB333_332.out _; (with_reducible repeat (first | refine zL ?_ _ | refine zN ?_ | refine zM ?_ _)); exact BK333.out) hb); have n5_ := zA (zAD (by repeat (first | (with_reducible first | exact HB.out | apply zH | apply zF | apply zG | refine zI ?_ GE318.out | refine zI ?_ GE332.out | refine zI ?_ GE333.out) | exact HB.out)) hb); clear HO327; clear HO330; clear BK318; clear BK332; clear BK333; clear HB; have HO327 := n0_; have HO330 := n1_; have BK318 := n2_; have BK332 := n3_; have BK333 := n4_; have HB := n5_; clear n0_ n1_ n2_ n3_ n4_ n5_; (try clear hb); (try clear hk)) | ((with_reducible refine yB (f := 25) rfl ?_); refine goesL_ (some 37) rfl rfl Try.func25 (by kernel_rfl) rfl #[.agg #[.string t334, .int .i64 t335], .string a1] rfl (by (try simp only [zAA, zAB, zAC]); first | done | rfl) ?_; (with_reducible refine (impl_SealText.calls k t334 t335 a1 t336 t337 t338 t339 t342 t345 _ A13.out).mono ?_); rintro e w32 ⟨v340, v343, rfl, ho0, ho1, hb⟩; refine ⟨_, rfl, ?_⟩; have n0_ := zA (yC (Kd.R_told (Kd.R_told (Kd.R_old (by (with_reducible repeat first | apply zQ | apply zR | apply zS); exact HO327.out) hb) (Kd.R_base ho0)) (Kd.R_base ho1)) (fun _ h_ => h_.1)); have n1_ := zA (yC (Kd.R_told (Kd.R_told (Kd.R_old (by (with_reducible repeat first | apply zQ | apply zR | apply zS); exact HO330.out) hb) (Kd.R_base ho0)) (Kd.R_base ho1)) (fun _ h_ => h_.1)); have n2_ := zA (Kd.R_lower (yK (yK ho0 (Kd.R_lt (by (with_reducible repeat first | apply zQ | apply zR | apply zS); exact HO327.out))) (Kd.R_lt (by (with_reducible repeat first | apply zQ | apply zR | apply zS); exact HO330.out))) (zAE (by repeat (first | (with_reducible first | exact HB.out | apply zH | apply zF | apply zG | refine zI ?_ GE318.out | refine zI ?_ GE332.out | refine zI ?_ GE333.out) | exact HB.out)))); have n3_ := zA (Kd.R_lower (yK (yK ho1 (Kd.R_lt (by (with_reducible repeat first | apply zQ | apply zR | apply zS); exact HO327.out))) (Kd.R_lt (by (with_reducible repeat first | apply zQ | apply zR | apply zS); exact HO330.out))) (zAE (by repeat (first | (with_reducible first | exact HB.out | apply zH | apply zF | apply zG | refine zI ?_ GE318.out | refine zI ?_ GE332.out | refine zI ?_ GE333.out) | exact HB.out)))); have n4_ := zA (yE (g := gb318) (o := .cells #[.string a0_0, .int .i64 a0_1] 43 (0, 0)) (by (with_reducible repeat (first | refine zL ?_ _ | refine zN ?_ | refine zM ?_ _)); exact BK318.out) hb); have n5_ := zA (yE (g := gb332) (o := .cells #[.string t322, .int .i64 t323] 45 (0, 0)) (by (with_reducible repeat (first | refine zL ?_ _ | refine zN ?_ | refine zM ?_ _)); exact BK332.out) hb); have n6_ := zA (yE (g := gb333) (o := .cells #[.int .i64 t324, .slice Ao28 t325.length co28, .slice Ao29 t328.length co29] 47 (0, 0)) (by (with_reducible repeat (first | refine zL ?_ _ | refine zN ?_ | refine zM ?_ _)); exact BK333.out) hb); have n7_ := zA (zAD (by repeat (first | (with_reducible first | exact HB.out | apply zH | apply zF | apply zG | refine zI ?_ GE318.out | refine zI ?_ GE332.out | refine zI ?_ GE333.out) | exact HB.out)) hb); clear HO327; clear HO330; clear BK318; clear BK332; clear BK333; clear HB; have HO327 := n0_; have HO330 := n1_; have HO341 := n2_; have HO344 := n3_; have BK318 := n4_; have BK332 := n5_; have BK333 := n6_; have HB := n7_; clear n0_ n1_ n2_ n3_ n4_ n5_ n6_ n7_; (try clear hb); (try clear ho0); (try clear ho1)) | ((with_reducible refine gate_dst (N := 9) rfl ?_); refine box_event ?hg (N := 9) ?hd (cs := #[.string (⟨#[]⟩ : ByteArray), .int .i64 0]) (t := 45) ?hr ?_; (case hd => rfl); (case hg => rfl); (case hr => first | (go_simp; done) | (go_simp; rfl)); intro gb346 hg w33 hbox hb; have n0_ := zA (Kd.R_below (by (with_reducible repeat first | apply zQ | apply zR | apply zS); exact HO327.out) hb); have n1_ := zA (Kd.R_below (by (with_reducible repeat first | apply zQ | apply zR | apply zS); exact HO330.out) hb); have n2_ := zA (Kd.R_below (by (with_reducible repeat first | apply zQ | apply zR | apply zS); exact HO341.out) hb); have n3_ := zA (Kd.R_below (by (with_reducible repeat first | apply zQ | apply zR | apply zS); exact HO344.out) hb); have n4_ := zA (yE (g := gb318) (o := .cells #[.string a0_0, .int .i64 a0_1] 43 (0, 0)) (by (with_reducible repeat (first | refine zL ?_ _ | refine zN ?_ | refine zM ?_ _)); exact BK318.out) hb); have n5_ := zA (yE (g := gb332) (o := .cells #[.string t322, .int .i64 t323] 45 (0, 0)) (by (with_reducible repeat (first | refine zL ?_ _ | refine zN ?_ | refine zM ?_ _)); exact BK332.out) hb); have n6_ := zA (yE (g := gb333) (o := .cells #[.int .i64 t324, .slice Ao28 t325.length co28, .slice Ao29 t328.length co29] 47 (0, 0)) (by (with_reducible repeat (first | refine zL ?_ _ | refine zN ?_ | refine zM ?_ _)); exact BK333.out) hb); have n7_ := zA (zAD (by repeat (first | (with_reducible first | exact HB.out | apply zH | apply zF | apply zG | refine zI ?_ GE318.out | refine zI ?_ GE332.out | refine zI ?_ GE333.out) | exact HB.out)) hb); have n8_ := zA (hbox); have n9_ := zA ((by rw [hg]; exact (zAE (by repeat (first | (with_reducible first | exact HB.out | apply zH | apply zF | apply zG | refine zI ?_ GE318.out | refine zI ?_ GE332.out | refine zI ?_ GE333.out) | exact HB.out))) : w.heap.size ≤ gb346)); have n10_ := zA ((by rw [hg]; exact (zAE (by repeat (first | (with_reducible first | exact HB.out | apply zH | apply zF | apply zG | refine zI ?_ GE318.out | refine zI ?_ GE332.out | refine zI ?_ GE333.out) | exact HB.out))) : w.heap.size ≤ gb346)); have n11_ := zA ((by rw [hg]; exact zK (blk_lt (g := gb318) (o := .cells #[.string a0_0, .int .i64 a0_1] 43 (0, 0)) (by (with_reducible repeat (first | refine zL ?_ _ | refine zN ?_ | refine zM ?_ _)); exact BK318.out)) : gb318 ≠ gb346)); have n12_ := zA ((by rw [hg]; exact Nat.ne_of_gt (blk_lt (g := gb318) (o := .cells #[.string a0_0, .int .i64 a0_1] 43 (0, 0)) (by (with_reducible repeat (first | refine zL ?_ _ | refine zN ?_ | refine zM ?_ _)); exact BK318.out)) : gb346 ≠ gb318)); have n13_ := zA ((by rw [hg]; exact zK (blk_lt (g := gb332) (o := .cells #[.string t322, .int .i64 t323] 45 (0, 0)) (by (with_reducible repeat (first | refine zL ?_ _ | refine zN ?_ | refine zM ?_ _)); exact BK332.out)) : gb332 ≠ gb346)); have n14_ := zA ((by rw [hg]; exact Nat.ne_of_gt (blk_lt (g := gb332) (o := .cells #[.string t322, .int .i64 t323] 45 (0, 0)) (by (with_reducible repeat (first | refine zL ?_ _ | refine zN ?_ | refine zM ?_ _)); exact BK332.out)) : gb346 ≠ gb332)); have n15_ := zA ((by rw [hg]; exact zK (blk_lt (g := gb333) (o := .cells #[.int .i64 t324, .slice Ao28 t325.length co28, .slice Ao29 t328.length co29] 47 (0, 0)) (by (with_reducible repeat (first | refine zL ?_ _ | refine zN ?_ | refine zM ?_ _)); exact BK333.out)) : gb333 ≠ gb346)); have n16_ := zA ((by rw [hg]; exact Nat.ne_of_gt (blk_lt (g := gb333) (o := .cells #[.int .i64 t324, .slice Ao28 t325.length co28, .slice Ao29 t328.length co29] 47 (0, 0)) (by (with_reducible repeat (first | refine zL ?_ _ | refine zN ?_ | refine zM ?_ _)); exact BK333.out)) : gb346 ≠ gb333)); clear HO327; clear HO330; clear HO341; clear HO344; clear BK318; clear BK332; clear BK333; clear HB; have HO327 := n0_; have HO330 := n1_; have HO341 := n2_; have HO344 := n3_; have BK318 := n4_; have BK332 := n5_; have BK333 := n6_; have HB := n7_; have BK346 := n8_; have GW346 := n9_; have GE346 := n10_; have NB318_346 := n11_; have NB346_318 := n12_; have NB332_346 := n13_; have NB346_332 := n14_; have NB333_346 := n15_; have NB346_333 := n16_; clear n0_ n1_ n2_ n3_ n4_ n5_ n6_ n7_ n8_ n9_ n10_ n11_ n12_ n13_ n14_ n15_ n16_; clear hb hbox hg) | ((with_reducible refine gate_dst (N := 10) rfl ?_); refine box_event ?hg (N := 10) ?hd (cs := #[.int .i64 0, .slice none 0 0, .slice none 0 0]) (t := 47) ?hr ?_; (case hd => rfl); (case hg => rfl); (case hr => first | (go_simp; done) | (go_simp; rfl)); intro gb347 hg w34 hbox hb; have n0_ := zA (Kd.R_below (by (with_reducible repeat first | apply zQ | apply zR | apply zS); exact HO327.out) hb); have n1_ := zA (Kd.R_below (by (with_reducible repeat first | apply zQ | apply zR | apply zS); exact HO330.out) hb); have n2_ := zA (Kd.R_below (by (with_reducible repeat first | apply zQ | apply zR | apply zS); exact HO341.out) hb); have n3_ := zA (Kd.R_below (by (with_reducible repeat first | apply zQ | apply zR | apply zS); exact HO344.out) hb); have n4_ := zA (yE (g := gb318) (o := .cells #[.string a0_0, .int .i64 a0_1] 43 (0, 0)) (by (with_reducible repeat (first | refine zL ?_ _ | refine zN ?_ | refine zM ?_ _)); exact BK318.out) hb); have n5_ := zA (yE (g := gb332) (o := .cells #[.string t322, .int .i64 t323] 45 (0, 0)) (by (with_reducible repeat (first | refine zL ?_ _ | refine zN ?_ | refine zM ?_ _)); exact BK332.out) hb); have n6_ := zA (yE (g := gb333) (o := .cells #[.int .i64 t324, .slice Ao28 t325.length co28, .slice Ao29 t328.length co29] 47 (0, 0)) (by (with_reducible repeat (first | refine zL ?_ _ | refine zN ?_ | refine zM ?_ _)); exact BK333.out) hb); have n7_ := zA (yE (g := gb346) (o := .cells #[.string (⟨#[]⟩ : ByteArray), .int .i64 0] 45 (0, 0)) (by (with_reducible repeat (first | refine zL ?_ _ | refine zN ?_ | refine zM ?_ _)); exact BK346.out) hb); have n8_ := zA (zAD (by repeat (first | (with_reducible first | exact HB.out | apply zH | apply zF | apply zG | refine zI ?_ GE318.out | refine zI ?_ GE332.out | refine zI ?_ GE333.out | refine zI ?_ GE346.out) | exact HB.out)) hb); have n9_ := zA (hbox); have n10_ := zA ((by rw [hg]; exact (zAE (by repeat (first | (with_reducible first | exact HB.out | apply zH | apply zF | apply zG | refine zI ?_ GE318.out | refine zI ?_ GE332.out | refine zI ?_ GE333.out | refine zI ?_ GE346.out) | exact HB.out))) : w.heap.size ≤ gb347)); have n11_ := zA ((by rw [hg]; exact (zAE (by repeat (first | (with_reducible first | exact HB.out | apply zH | apply zF | apply zG | refine zI ?_ GE318.out | refine zI ?_ GE332.out | refine zI ?_ GE333.out | refine zI ?_ GE346.out) | exact HB.out))) : w.heap.size ≤ gb347)); have n12_ := zA ((by rw [hg]; exact zK (blk_lt (g := gb318) (o := .cells #[.string a0_0, .int .i64 a0_1] 43 (0, 0)) (by (with_reducible repeat (first | refine zL ?_ _ | refine zN ?_ | refine zM ?_ _)); exact BK318.out)) : gb318 ≠ gb347)); have n13_ := zA ((by rw [hg]; exact Nat.ne_of_gt (blk_lt (g := gb318) (o := .cells #[.string a0_0, .int .i64 a0_1] 43 (0, 0)) (by (with_reducible repeat (first | refine zL ?_ _ | refine zN ?_ | refine zM ?_ _)); exact BK318.out)) : gb347 ≠ gb318)); have n14_ := zA ((by rw [hg]; exact zK (blk_lt (g := gb332) (o := .cells #[.string t322, .int .i64 t323] 45 (0, 0)) (by (with_reducible repeat (first | refine zL ?_ _ | refine zN ?_ | refine zM ?_ _)); exact BK332.out)) : gb332 ≠ gb347)); have n15_ := zA ((by rw [hg]; exact Nat.ne_of_gt (blk_lt (g := gb332) (o := .cells #[.string t322, .int .i64 t323] 45 (0, 0)) (by (with_reducible repeat (first | refine zL ?_ _ | refine zN ?_ | refine zM ?_ _)); exact BK332.out)) : gb347 ≠ gb332)); have n16_ := zA ((by rw [hg]; exact zK (blk_lt (g := gb333) (o := .cells #[.int .i64 t324, .slice Ao28 t325.length co28, .slice Ao29 t328.length co29] 47 (0, 0)) (by (with_reducible repeat (first | refine zL ?_ _ | refine zN ?_ | refine zM ?_ _)); exact BK333.out)) : gb333 ≠ gb347)); have n17_ := zA ((by rw [hg]; exact Nat.ne_of_gt (blk_lt (g := gb333) (o := .cells #[.int .i64 t324, .slice Ao28 t325.length co28, .slice Ao29 t328.length co29] 47 (0, 0)) (by (with_reducible repeat (first | refine zL ?_ _ | refine zN ?_ | refine zM ?_ _)); exact BK333.out)) : gb347 ≠ gb333)); have n18_ := zA ((by rw [hg]; exact zK (blk_lt (g := gb346) (o := .cells #[.string (⟨#[]⟩ : ByteArray), .int .i64 0] 45 (0, 0)) (by (with_reducible repeat (first | refine zL ?_ _ | refine zN ?_ | refine zM ?_ _)); exact BK346.out)) : gb346 ≠ gb347)); have n19_ := zA ((by rw [hg]; exact Nat.ne_of_gt (blk_lt (g := gb346) (o := .cells #[.string (⟨#[]⟩ : ByteArray), .int .i64 0] 45 (0, 0)) (by (with_reducible repeat (first | refine zL ?_ _ | refine zN ?_ | refine zM ?_ _)); exact BK346.out)) : gb347 ≠ gb346)); clear HO327; clear HO330; clear HO341; clear HO344; clear BK318; clear BK332; clear BK333; clear BK346; clear HB; have HO327 := n0_; have HO330 := n1_; have HO341 := n2_; have HO344 := n3_; have BK318 := n4_; have BK332 := n5_; have BK333 := n6_; have BK346 := n7_; have HB := n8_; have BK347 := n9_; have GW347 := n10_; have GE347 := n11_; have NB318_347 := n12_; have NB347_318 := n13_; have NB332_347 := n14_; have NB347_332 := n15_; have NB333_347 := n16_; have NB347_333 := n17_; have NB346_347 := n18_; have NB347_346 := n19_; clear n0_ n1_ n2_ n3_ n4_ n5_ n6_ n7_ n8_ n9_ n10_ n11_ n12_ n13_ n14_ n15_ n16_ n17_ n18_ n19_; clear hb hbox hg; have hnb35 := NB346_318.out; have hnc35 := NB318_346.out; have hnb36 := NB346_332.out; have hnc36 := NB332_346.out; have hnb37 := NB346_333.out; have hnc37 := NB333_346.out; have hnb38 := NB346_347.out; have hnc38 := NB347_346.out; have hcz39_0 := yL BK346.out 0 (.string (⟨#[]⟩ : ByteArray)) rfl; have hcz39_1 := yL BK346.out 1 (.int .i64 0) rfl; have hfz39_0 := zO BK346.out 0; have hfz39_1 := zO BK346.out 1; have hnb40 := NB347_318.out; have hnc40 := NB318_347.out; have hnb41 := NB347_332.out; have hnc41 := NB332_347.out; have hnb42 := NB347_333.out; have hnc42 := NB333_347.out; have hcz43_0 := yL BK347.out 0 (.int .i64 0) rfl; have hcz43_1 := yL BK347.out 1 (.slice none 0 0) rfl; have hcz43_2 := yL BK347.out 2 (.slice none 0 0) rfl; have hfz43_0 := zO BK347.out 0; have hfz43_1 := zO BK347.out 1; have hfz43_2 := zO BK347.out 2; obtain ⟨Ao44, co44, eo44⟩ := Kd.R_slice HO341.out; subst eo44; obtain ⟨Ao45, co45, eo45⟩ := Kd.R_slice HO344.out; subst eo45))
   (try simp only [Act.put, zC, zD, zE]); go_cut [55] (fun v55 wc => ∃ (kq : Nat) (x55_13 : Bool), v55 = .bool x55_13 ∧ Aside0 (laws_FnExactSealText.j0 kq a1 t331 x55_13 a0_0 a0_1 t322 t323 t324 t325 t328 t338 t339 t342 = some r) ∧ Aside0 (kq ≤ k) ∧ Aside0 (Kd.R Kd.string 9 wc w.heap.size (fun k_ => some k_ ≠ ((.slice Ao29 t328.length co29) : Value).ownBlock ∧ some k_ ≠ ((.slice Ao44 t339.length co44) : Value).ownBlock ∧ some k_ ≠ ((.slice Ao45 t342.length co45) : Value).ownBlock) (.slice Ao28 t325.length co28) t325) ∧ Aside0 (Kd.R Kd.string 9 wc w.heap.size (fun k_ => some k_ ≠ ((.slice Ao28 t325.length co28) : Value).ownBlock ∧ some k_ ≠ ((.slice Ao44 t339.length co44) : Value).ownBlock ∧ some k_ ≠ ((.slice Ao45 t342.length co45) : Value).ownBlock) (.slice Ao29 t328.length co29) t328) ∧ Aside0 (Kd.R Kd.string 9 wc w.heap.size (fun k_ => some k_ ≠ ((.slice Ao28 t325.length co28) : Value).ownBlock ∧ some k_ ≠ ((.slice Ao29 t328.length co29) : Value).ownBlock ∧ some k_ ≠ ((.slice Ao45 t342.length co45) : Value).ownBlock) (.slice Ao44 t339.length co44) t339) ∧ Aside0 (Kd.R Kd.string 9 wc w.heap.size (fun k_ => some k_ ≠ ((.slice Ao28 t325.length co28) : Value).ownBlock ∧ some k_ ≠ ((.slice Ao29 t328.length co29) : Value).ownBlock ∧ some k_ ≠ ((.slice Ao44 t339.length co44) : Value).ownBlock) (.slice Ao45 t342.length co45) t342) ∧ Aside0 (wc.heap[gb318]? = some (.cells #[.string a0_0, .int .i64 a0_1] 43 (0, 0))) ∧ Aside0 (wc.heap[gb332]? = some (.cells #[.string t322, .int .i64 t323] 45 (0, 0))) ∧ Aside0 (wc.heap[gb333]? = some (.cells #[.int .i64 t324, (.slice Ao28 t325.length co28), (.slice Ao29 t328.length co29)] 47 (0, 0))) ∧ Aside0 (wc.heap[gb346]? = some (.cells #[.string t336, .int .i64 t337] 45 (0, 0))) ∧ Aside0 (wc.heap[gb347]? = some (.cells #[.int .i64 t338, (.slice Ao44 t339.length co44), (.slice Ao45 t342.length co45)] 47 (0, 0))) ∧ Aside0 (Below w.heap.size w wc))
   case first =>
    have H := HC14.out; clear HC14; replace H := zAF H; obtain ⟨t348, A460, H⟩ := H; replace H : (if t348 = true then ((laws_eqSeal.f k t338 t339 t342 t324 t325 t328).bind fun t349 => (if t349 = true then (laws_FnExactSealText.j0 k a1 t331 (t345 != t331) a0_0 a0_1 t322 t323 t324 t325 t328 t338 t339 t342) else (laws_FnExactSealText.j0 k a1 t331 true a0_0 a0_1 t322 t323 t324 t325 t328 t338 t339 t342))) else (laws_FnExactSealText.j0 k a1 t331 true a0_0 a0_1 t322 t323 t324 t325 t328 t338 t339 t342)) = some r := H; have A46 := zA A460; clear A460
    by_cases c47 : t348 = true
    ·subst c47
     have H1 : ((laws_eqSeal.f k t338 t339 t342 t324 t325 t328).bind fun t349 => (if t349 = true then (laws_FnExactSealText.j0 k a1 t331 (t345 != t331) a0_0 a0_1 t322 t323 t324 t325 t328 t338 t339 t342) else (laws_FnExactSealText.j0 k a1 t331 true a0_0 a0_1 t322 t323 t324 t325 t328 t338 t339 t342))) = some r := by rw [if_pos rfl] at H; exact H
     clear H; have H := H1; clear H1; replace H := zAF H; obtain ⟨t349, A480, H⟩ := H; replace H : (if t349 = true then (laws_FnExactSealText.j0 k a1 t331 (t345 != t331) a0_0 a0_1 t322 t323 t324 t325 t328 t338 t339 t342) else (laws_FnExactSealText.j0 k a1 t331 true a0_0 a0_1 t322 t323 t324 t325 t328 t338 t339 t342)) = some r := H; have A48 := zA A480; clear A480
     by_cases c49 : t349 = true
     ·subst c49
      have H1 : (laws_FnExactSealText.j0 k a1 t331 (t345 != t331) a0_0 a0_1 t322 t323 t324 t325 t328 t338 t339 t342) = some r := by rw [if_pos rfl] at H; exact H
      clear H; have H := H1; clear H1; have H' := zA H; clear H; have hnb50 := NB346_318.out; have hnc50 := NB318_346.out; have hnb51 := NB346_332.out; have hnc51 := NB332_346.out; have hnb52 := NB346_333.out; have hnc52 := NB333_346.out; have hnb53 := NB346_347.out; have hnc53 := NB347_346.out; have hcz54_0 := yL BK346.out 0 (.string (⟨#[]⟩ : ByteArray)) rfl; have hcz54_1 := yL BK346.out 1 (.int .i64 0) rfl; have hfz54_0 := zO BK346.out 0; have hfz54_1 := zO BK346.out 1; have hnb55 := NB332_318.out; have hnc55 := NB318_332.out; have hnb56 := NB332_333.out; have hnc56 := NB333_332.out; have hnb57 := NB332_347.out; have hnc57 := NB347_332.out; have hcz58_0 := yL BK332.out 0 (.string t322) rfl; have hcz58_1 := yL BK332.out 1 (.int .i64 t323) rfl; have hfz58_0 := zO BK332.out 0; have hfz58_1 := zO BK332.out 1; go_wp2_with (first | ((with_reducible refine yB (f := 26) rfl ?_); refine goesL_ (some 43) rfl rfl Try.func26 (by kernel_rfl) rfl #[.agg #[.string t336, .int .i64 t337], .agg #[.string t322, .int .i64 t323]] rfl (by (try simp only [zAA, zAB, zAC]); first | done | rfl) ?_; (with_reducible refine (laws_eqSigner.calls t336 t337 t322 t323 true _ A46.out ⟨rfl⟩).mono ?_); rintro e w59 ⟨rfl, hb⟩; refine ⟨_, rfl, ?_⟩; have n0_ := zA (Kd.R_below (by (with_reducible repeat first | apply zQ | apply zR | apply zS); exact (yC (yC (Kd.R_far (p := ⟨gb347, 2, none⟩) (Kd.R_far (p := ⟨gb347, 1, none⟩) (Kd.R_far (p := ⟨gb347, 0, none⟩) (Kd.R_far (p := ⟨gb346, 1, none⟩) (Kd.R_far (p := ⟨gb346, 0, none⟩) (Kd.R_types (Kd.R_types HO327.out BK346.out (by decide)) BK347.out (by decide)) (fun _ hk => hk.1.2) (.string t336)) (fun _ hk => hk.1.2) (.int .i64 t337)) (fun _ hk => hk.2) (.int .i64 t338)) (fun _ hk => hk.2) (.slice Ao44 t339.length co44)) (fun _ hk => hk.2) (.slice Ao45 t342.length co45)) (fun _ h_ => h_.1)) (fun _ h_ => h_.1))) hb); have n1_ := zA (Kd.R_below (by (with_reducible repeat first | apply zQ | apply zR | apply zS); exact (yC (yC (Kd.R_far (p := ⟨gb347, 2, none⟩) (Kd.R_far (p := ⟨gb347, 1, none⟩) (Kd.R_far (p := ⟨gb347, 0, none⟩) (Kd.R_far (p := ⟨gb346, 1, none⟩) (Kd.R_far (p := ⟨gb346, 0, none⟩) (Kd.R_types (Kd.R_types HO330.out BK346.out (by decide)) BK347.out (by decide)) (fun _ hk => hk.1.2) (.string t336)) (fun _ hk => hk.1.2) (.int .i64 t337)) (fun _ hk => hk.2) (.int .i64 t338)) (fun _ hk => hk.2) (.slice Ao44 t339.length co44)) (fun _ hk => hk.2) (.slice Ao45 t342.length co45)) (fun _ h_ => h_.1)) (fun _ h_ => h_.1))) hb); have n2_ := zA (Kd.R_below (by (with_reducible repeat first | apply zQ | apply zR | apply zS); exact (yC (yC (Kd.R_far (p := ⟨gb347, 2, none⟩) (Kd.R_far (p := ⟨gb347, 1, none⟩) (Kd.R_far (p := ⟨gb347, 0, none⟩) (Kd.R_far (p := ⟨gb346, 1, none⟩) (Kd.R_far (p := ⟨gb346, 0, none⟩) (Kd.R_types (Kd.R_types HO341.out BK346.out (by decide)) BK347.out (by decide)) (fun _ hk => hk.1.2) (.string t336)) (fun _ hk => hk.1.2) (.int .i64 t337)) (fun _ hk => hk.2) (.int .i64 t338)) (fun _ hk => hk.2) (.slice Ao44 t339.length co44)) (fun _ hk => hk.2) (.slice Ao45 t342.length co45)) (fun _ h_ => h_.1)) (fun _ h_ => h_.1))) hb); have n3_ := zA (Kd.R_below (by (with_reducible repeat first | apply zQ | apply zR | apply zS); exact (yC (yC (Kd.R_far (p := ⟨gb347, 2, none⟩) (Kd.R_far (p := ⟨gb347, 1, none⟩) (Kd.R_far (p := ⟨gb347, 0, none⟩) (Kd.R_far (p := ⟨gb346, 1, none⟩) (Kd.R_far (p := ⟨gb346, 0, none⟩) (Kd.R_types (Kd.R_types HO344.out BK346.out (by decide)) BK347.out (by decide)) (fun _ hk => hk.1.2) (.string t336)) (fun _ hk => hk.1.2) (.int .i64 t337)) (fun _ hk => hk.2) (.int .i64 t338)) (fun _ hk => hk.2) (.slice Ao44 t339.length co44)) (fun _ hk => hk.2) (.slice Ao45 t342.length co45)) (fun _ h_ => h_.1)) (fun _ h_ => h_.1))) hb); have n4_ := zA (yE (g := gb318) (o := .cells #[.string a0_0, .int .i64 a0_1] 43 (0, 0)) (by (with_reducible repeat (first | refine zL ?_ _ | refine zN ?_ | refine zM ?_ _)); refine blk_far ?_ NB318_347.out _; (with_reducible repeat (first | refine zL ?_ _ | refine zN ?_ | refine zM ?_ _)); refine blk_far ?_ NB318_347.out _; (with_reducible repeat (first | refine zL ?_ _ | refine zN ?_ | refine zM ?_ _)); refine blk_far ?_ NB318_347.out _; (with_reducible repeat (first | refine zL ?_ _ | refine zN ?_ | refine zM ?_ _)); refine blk_far ?_ NB318_346.out _; (with_reducible repeat (first | refine zL ?_ _ | refine zN ?_ | refine zM ?_ _)); refine blk_far ?_ NB318_346.out _; (with_reducible repeat (first | refine zL ?_ _ | refine zN ?_ | refine zM ?_ _)); exact BK318.out) hb); have n5_ := zA (yE (g := gb332) (o := .cells #[.string t322, .int .i64 t323] 45 (0, 0)) (by (with_reducible repeat (first | refine zL ?_ _ | refine zN ?_ | refine zM ?_ _)); refine blk_far ?_ NB332_347.out _; (with_reducible repeat (first | refine zL ?_ _ | refine zN ?_ | refine zM ?_ _)); refine blk_far ?_ NB332_347.out _; (with_reducible repeat (first | refine zL ?_ _ | refine zN ?_ | refine zM ?_ _)); refine blk_far ?_ NB332_347.out _; (with_reducible repeat (first | refine zL ?_ _ | refine zN ?_ | refine zM ?_ _)); refine blk_far ?_ NB332_346.out _; (with_reducible repeat (first | refine zL ?_ _ | refine zN ?_ | refine zM ?_ _)); refine blk_far ?_ NB332_346.out _; (with_reducible repeat (first | refine zL ?_ _ | refine zN ?_ | refine zM ?_ _)); exact BK332.out) hb); have n6_ := zA (yE (g := gb333) (o := .cells #[.int .i64 t324, .slice Ao28 t325.length co28, .slice Ao29 t328.length co29] 47 (0, 0)) (by (with_reducible repeat (first | refine zL ?_ _ | refine zN ?_ | refine zM ?_ _)); refine blk_far ?_ NB333_347.out _; (with_reducible repeat (first | refine zL ?_ _ | refine zN ?_ | refine zM ?_ _)); refine blk_far ?_ NB333_347.out _; (with_reducible repeat (first | refine zL ?_ _ | refine zN ?_ | refine zM ?_ _)); refine blk_far ?_ NB333_347.out _; (with_reducible repeat (first | refine zL ?_ _ | refine zN ?_ | refine zM ?_ _)); refine blk_far ?_ NB333_346.out _; (with_reducible repeat (first | refine zL ?_ _ | refine zN ?_ | refine zM ?_ _)); refine blk_far ?_ NB333_346.out _; (with_reducible repeat (first | refine zL ?_ _ | refine zN ?_ | refine zM ?_ _)); exact BK333.out) hb); have n7_ := zA (yE (g := gb346) (o := .cells #[.string t336, .int .i64 t337] 45 (0, 0)) (by (with_reducible repeat (first | refine zL ?_ _ | refine zN ?_ | refine zM ?_ _)); refine blk_far ?_ NB346_347.out _; (with_reducible repeat (first | refine zL ?_ _ | refine zN ?_ | refine zM ?_ _)); refine blk_far ?_ NB346_347.out _; (with_reducible repeat (first | refine zL ?_ _ | refine zN ?_ | refine zM ?_ _)); refine blk_far ?_ NB346_347.out _; (with_reducible repeat (first | refine zL ?_ _ | refine zN ?_ | refine zM ?_ _)); refine blk_put (cs := #[.string t336, .int .i64 0]) ?_ 1 _ rfl; (with_reducible repeat (first | refine zL ?_ _ | refine zN ?_ | refine zM ?_ _)); refine blk_put (cs := #[.string (⟨#[]⟩ : ByteArray), .int .i64 0]) ?_ 0 _ rfl; (with_reducible repeat (first | refine zL ?_ _ | refine zN ?_ | refine zM ?_ _)); exact BK346.out) hb); have n8_ := zA (yE (g := gb347) (o := .cells #[.int .i64 t338, .slice Ao44 t339.length co44, .slice Ao45 t342.length co45] 47 (0, 0)) (by (with_reducible repeat (first | refine zL ?_ _ | refine zN ?_ | refine zM ?_ _)); refine blk_put (cs := #[.int .i64 t338, .slice Ao44 t339.length co44, .slice none 0 0]) ?_ 2 _ rfl; (with_reducible repeat (first | refine zL ?_ _ | refine zN ?_ | refine zM ?_ _)); refine blk_put (cs := #[.int .i64 t338, .slice none 0 0, .slice none 0 0]) ?_ 1 _ rfl; (with_reducible repeat (first | refine zL ?_ _ | refine zN ?_ | refine zM ?_ _)); refine blk_put (cs := #[.int .i64 0, .slice none 0 0, .slice none 0 0]) ?_ 0 _ rfl; (with_reducible repeat (first | refine zL ?_ _ | refine zN ?_ | refine zM ?_ _)); refine blk_far ?_ NB347_346.out _; (with_reducible repeat (first | refine zL ?_ _ | refine zN ?_ | refine zM ?_ _)); refine blk_far ?_ NB347_346.out _; (with_reducible repeat (first | refine zL ?_ _ | refine zN ?_ | refine zM ?_ _)); exact BK347.out) hb); have n9_ := zA (zAD (by repeat (first | (with_reducible first | exact HB.out | apply zH | apply zF | apply zG | refine zI ?_ GE318.out | refine zI ?_ GE332.out | refine zI ?_ GE333.out | refine zI ?_ GE346.out | refine zI ?_ GE347.out) | exact HB.out)) hb); clear HO327; clear HO330; clear HO341; clear HO344; clear BK318; clear BK332; clear BK333; clear BK346; clear BK347; clear HB; have HO327 := n0_; have HO330 := n1_; have HO341 := n2_; have HO344 := n3_; have BK318 := n4_; have BK332 := n5_; have BK333 := n6_; have BK346 := n7_; have BK347 := n8_; have HB := n9_; clear n0_ n1_ n2_ n3_ n4_ n5_ n6_ n7_ n8_ n9_; (try clear hb); (try clear hk); have hnb60 := NB347_318.out; have hnc60 := NB318_347.out; have hnb61 := NB347_333.out; have hnc61 := NB333_347.out; have hcz62_0 := yL BK347.out 0 (.int .i64 t338) rfl; have hcz62_1 := yL BK347.out 1 (.slice Ao44 t339.length co44) rfl; have hcz62_2 := yL BK347.out 2 (.slice Ao45 t342.length co45) rfl; have hfz62_0 := zO BK347.out 0; have hfz62_1 := zO BK347.out 1; have hfz62_2 := zO BK347.out 2; have hnb63 := NB333_318.out; have hnc63 := NB318_333.out; have hcz64_0 := yL BK333.out 0 (.int .i64 t324) rfl; have hcz64_1 := yL BK333.out 1 (.slice Ao28 t325.length co28) rfl; have hcz64_2 := yL BK333.out 2 (.slice Ao29 t328.length co29) rfl; have hfz64_0 := zO BK333.out 0; have hfz64_1 := zO BK333.out 1; have hfz64_2 := zO BK333.out 2) | (go_at_call 27; (with_reducible refine (laws_eqSeal.calls k t338 _ _ t339 _ _ t342 t324 _ _ t325 _ _ t328 true _ ?side1 ?side2 ?side3 ?side4 ?side5 ?side6 ?side7 ?side8 A48.out ⟨rfl⟩).mono ?_); (case side1 => repeat (first | exact (yD HO341.out).2.2 | (with_reducible first | refine zT ?_ _ | refine zU ?_ _ | refine zV ?_))); (case side2 => exact (yD HO341.out).2.1); (case side3 => repeat (first | exact (yD HO344.out).2.2 | (with_reducible first | refine zT ?_ _ | refine zU ?_ _ | refine zV ?_))); (case side4 => exact (yD HO344.out).2.1); (case side5 => repeat (first | exact (yD HO327.out).2.2 | (with_reducible first | refine zT ?_ _ | refine zU ?_ _ | refine zV ?_))); (case side6 => exact (yD HO327.out).2.1); (case side7 => repeat (first | exact (yD HO330.out).2.2 | (with_reducible first | refine zT ?_ _ | refine zU ?_ _ | refine zV ?_))); (case side8 => exact (yD HO330.out).2.1); rintro e w65 ⟨rfl, hb⟩; have n0_ := zA (Kd.R_below (by (with_reducible repeat first | apply zQ | apply zR | apply zS); exact HO327.out) hb); have n1_ := zA (Kd.R_below (by (with_reducible repeat first | apply zQ | apply zR | apply zS); exact HO330.out) hb); have n2_ := zA (Kd.R_below (by (with_reducible repeat first | apply zQ | apply zR | apply zS); exact HO341.out) hb); have n3_ := zA (Kd.R_below (by (with_reducible repeat first | apply zQ | apply zR | apply zS); exact HO344.out) hb); have n4_ := zA (yE (g := gb318) (o := .cells #[.string a0_0, .int .i64 a0_1] 43 (0, 0)) (by (with_reducible repeat (first | refine zL ?_ _ | refine zN ?_ | refine zM ?_ _)); exact BK318.out) hb); have n5_ := zA (yE (g := gb332) (o := .cells #[.string t322, .int .i64 t323] 45 (0, 0)) (by (with_reducible repeat (first | refine zL ?_ _ | refine zN ?_ | refine zM ?_ _)); exact BK332.out) hb); have n6_ := zA (yE (g := gb333) (o := .cells #[.int .i64 t324, .slice Ao28 t325.length co28, .slice Ao29 t328.length co29] 47 (0, 0)) (by (with_reducible repeat (first | refine zL ?_ _ | refine zN ?_ | refine zM ?_ _)); exact BK333.out) hb); have n7_ := zA (yE (g := gb346) (o := .cells #[.string t336, .int .i64 t337] 45 (0, 0)) (by (with_reducible repeat (first | refine zL ?_ _ | refine zN ?_ | refine zM ?_ _)); exact BK346.out) hb); have n8_ := zA (yE (g := gb347) (o := .cells #[.int .i64 t338, .slice Ao44 t339.length co44, .slice Ao45 t342.length co45] 47 (0, 0)) (by (with_reducible repeat (first | refine zL ?_ _ | refine zN ?_ | refine zM ?_ _)); exact BK347.out) hb); have n9_ := zA (zAD (by repeat (first | (with_reducible first | exact HB.out | apply zH | apply zF | apply zG | refine zI ?_ GE318.out | refine zI ?_ GE332.out | refine zI ?_ GE333.out | refine zI ?_ GE346.out | refine zI ?_ GE347.out) | exact HB.out)) hb); clear HO327; clear HO330; clear HO341; clear HO344; clear BK318; clear BK332; clear BK333; clear BK346; clear BK347; clear HB; have HO327 := n0_; have HO330 := n1_; have HO341 := n2_; have HO344 := n3_; have BK318 := n4_; have BK332 := n5_; have BK333 := n6_; have BK346 := n7_; have BK347 := n8_; have HB := n9_; clear n0_ n1_ n2_ n3_ n4_ n5_ n6_ n7_ n8_ n9_; (try clear hb)))
      go_meet
      case rel => exact ⟨_, ((t345 != t331)), (by first | rfl | (simp; done) | (simp [*]; done) | (simp [bne]; done)), H', ⟨by first | omega | exact Nat.le_refl _⟩, ⟨by (with_reducible repeat first | apply zQ | apply zR | apply zS); exact yC HO327.out (fun _ hk => ⟨hk.1.1, ⟨hk.1.2, hk.2⟩⟩)⟩, ⟨by (with_reducible repeat first | apply zQ | apply zR | apply zS); exact yC HO330.out (fun _ hk => ⟨hk.1.1, ⟨hk.1.2, hk.2⟩⟩)⟩, ⟨by (with_reducible repeat first | apply zQ | apply zR | apply zS); exact yC HO341.out (fun _ hk => ⟨hk.1.2, ⟨hk.2, hk.1.1⟩⟩)⟩, ⟨by (with_reducible repeat first | apply zQ | apply zR | apply zS); exact yC HO344.out (fun _ hk => ⟨hk.1.2, ⟨hk.2, hk.1.1⟩⟩)⟩, ⟨by (with_reducible repeat (first | refine zL ?_ _ | refine zN ?_ | refine zM ?_ _)); exact BK318.out⟩, ⟨by (with_reducible repeat (first | refine zL ?_ _ | refine zN ?_ | refine zM ?_ _)); exact BK332.out⟩, ⟨by (with_reducible repeat (first | refine zL ?_ _ | refine zN ?_ | refine zM ?_ _)); exact BK333.out⟩, ⟨by (with_reducible repeat (first | refine zL ?_ _ | refine zN ?_ | refine zM ?_ _)); exact BK346.out⟩, ⟨by (with_reducible repeat (first | refine zL ?_ _ | refine zN ?_ | refine zM ?_ _)); exact BK347.out⟩, ⟨by repeat (first | (with_reducible first | exact HB.out | apply zH | apply zF | apply zG | refine zI ?_ GE318.out | refine zI ?_ GE332.out | refine zI ?_ GE333.out | refine zI ?_ GE346.out | refine zI ?_ GE347.out) | exact HB.out)⟩⟩
     ·replace c49 := yO c49
      subst c49; have H1 : (laws_FnExactSealText.j0 k a1 t331 true a0_0 a0_1 t322 t323 t324 t325 t328 t338 t339 t342) = some r := by rw [if_neg (show ¬ (false = true) by decide)] at H; exact H
      clear H; have H := H1; clear H1
      exfalso; revert H; generalize k = q_; intro H; cases q_ with
      | zero => exact absurd H (by simp [laws_FnExactSealText.j0])
      | succ q_ => simp only [laws_FnExactSealText.j0] at H; exact absurd ((yM (show some false = some _ from H)).trans hr_.out) (by decide)
    ·replace c47 := yO c47
     subst c47; have H1 : (laws_FnExactSealText.j0 k a1 t331 true a0_0 a0_1 t322 t323 t324 t325 t328 t338 t339 t342) = some r := by rw [if_neg (show ¬ (false = true) by decide)] at H; exact H
     clear H; have H := H1; clear H1
     exfalso; revert H; generalize k = q_; intro H; cases q_ with
     | zero => exact absurd H (by simp [laws_FnExactSealText.j0])
     | succ q_ => simp only [laws_FnExactSealText.j0] at H; exact absurd ((yM (show some false = some _ from H)).trans hr_.out) (by decide)
   case rest =>
    clear HC14
    try clear c2
    try clear p2
    try clear c3
    try clear c3b0
    try clear c3b1
    try clear c4
    try clear c5
    try clear c6
    try clear c6b0
    try clear c22
    try clear c23
    try clear c24
    try clear c25
    try clear c26
    try clear c35
    try clear c36
    try clear c37
    try clear c38
    try clear c40
    try clear c41
    try clear c42
    try clear c47
    try clear c49
    try clear c50
    try clear c51
    try clear c52
    try clear c53
    try clear c55
    try clear c56
    try clear c57
    try clear c60
    try clear c61
    try clear c63
    try clear hcz16_0
    try clear hcz16_1
    try clear hcz18_0
    try clear hcz18_1
    try clear hcz25_0
    try clear hcz25_1
    try clear hcz27_0
    try clear hcz27_1
    try clear hcz27_2
    try clear hcz30_0
    try clear hcz30_1
    try clear hcz39_0
    try clear hcz39_1
    try clear hcz43_0
    try clear hcz43_1
    try clear hcz43_2
    try clear hcz54_0
    try clear hcz54_1
    try clear hcz58_0
    try clear hcz58_1
    try clear hcz62_0
    try clear hcz62_1
    try clear hcz62_2
    try clear hcz64_0
    try clear hcz64_1
    try clear hcz64_2
    try clear hcz8_0
    try clear hcz8_1
    try clear hfz16_0
    try clear hfz16_1
    try clear hfz18_0
    try clear hfz18_1
    try clear hfz25_0
    try clear hfz25_1
    try clear hfz27_0
    try clear hfz27_1
    try clear hfz27_2
    try clear hfz30_0
    try clear hfz30_1
    try clear hfz39_0
    try clear hfz39_1
    try clear hfz43_0
    try clear hfz43_1
    try clear hfz43_2
    try clear hfz54_0
    try clear hfz54_1
    try clear hfz58_0
    try clear hfz58_1
    try clear hfz62_0
    try clear hfz62_1
    try clear hfz62_2
    try clear hfz64_0
    try clear hfz64_1
    try clear hfz64_2
    try clear hfz8_0
    try clear hfz8_1
    obtain ⟨kq, x55_13, rfl, HA, HJ13, HO_334001, HO_334002, HO_348001, HO_348002, BK318, BK332, BK333, BK346, BK347, HB⟩ := hcut
    cases kq with
    | zero => exact absurd HA.out (by simp [laws_FnExactSealText.j0])
    | succ kj13 =>
     have H := HA.out; clear HA; simp only [laws_FnExactSealText.j0] at H
     by_cases c66 : x55_13 = true
     ·subst c66
      have H1 : (some false) = some r := by rw [if_pos rfl] at H; exact H
      clear H; have H := H1; clear H1; exact absurd ((yM H).trans hr_.out) (by decide)
     ·replace c66 := yO c66
      subst c66; have H1 : ((laws_markSeal.f kj13 t338 t339 t342 1).bind fun bt350 => ((laws_heldSeal.f kj13 t338 bt350.2.1 bt350.2.2 1).bind fun t353 => (if t353 < 0 then (some false) else (if t353 = bt350.1 then ((laws_toSigner.f a0_0 a0_1).bind fun bt354 => ((impl_SealText.f kj13 bt354.1 bt354.2 a1).bind fun bt356 => ((laws_eqSigner.f bt356.1 bt356.2.1 t322 t323).bind fun t368 => (if t368 = true then ((laws_eqSeal.f kj13 bt356.2.2.1 bt356.2.2.2.1 bt356.2.2.2.2.1 t324 t325 t328).bind fun t369 => (if t369 = true then (laws_FnExactSealText.j1 kj13 bt350.1 (bt356.2.2.2.2.2 != t331) t338 bt350.2.1 bt350.2.2) else (laws_FnExactSealText.j1 kj13 bt350.1 true t338 bt350.2.1 bt350.2.2))) else (laws_FnExactSealText.j1 kj13 bt350.1 true t338 bt350.2.1 bt350.2.2))))) else (some false))))) = some r := by rw [if_neg (show ¬ (false = true) by decide)] at H; exact H
      clear H; have H := H1; clear H1; replace H := zAF H; obtain ⟨⟨t350, t351, t352⟩, A670, H⟩ := H; replace H : ((laws_heldSeal.f kj13 t338 t351 t352 1).bind fun t353 => (if t353 < 0 then (some false) else (if t353 = t350 then ((laws_toSigner.f a0_0 a0_1).bind fun bt354 => ((impl_SealText.f kj13 bt354.1 bt354.2 a1).bind fun bt356 => ((laws_eqSigner.f bt356.1 bt356.2.1 t322 t323).bind fun t368 => (if t368 = true then ((laws_eqSeal.f kj13 bt356.2.2.1 bt356.2.2.2.1 bt356.2.2.2.2.1 t324 t325 t328).bind fun t369 => (if t369 = true then (laws_FnExactSealText.j1 kj13 t350 (bt356.2.2.2.2.2 != t331) t338 t351 t352) else (laws_FnExactSealText.j1 kj13 t350 true t338 t351 t352))) else (laws_FnExactSealText.j1 kj13 t350 true t338 t351 t352))))) else (some false)))) = some r := H; have A67 := zA A670; clear A670; replace H := zAF H; obtain ⟨t353, A680, H⟩ := H; replace H : (if t353 < 0 then (some false) else (if t353 = t350 then ((laws_toSigner.f a0_0 a0_1).bind fun bt354 => ((impl_SealText.f kj13 bt354.1 bt354.2 a1).bind fun bt356 => ((laws_eqSigner.f bt356.1 bt356.2.1 t322 t323).bind fun t368 => (if t368 = true then ((laws_eqSeal.f kj13 bt356.2.2.1 bt356.2.2.2.1 bt356.2.2.2.2.1 t324 t325 t328).bind fun t369 => (if t369 = true then (laws_FnExactSealText.j1 kj13 t350 (bt356.2.2.2.2.2 != t331) t338 t351 t352) else (laws_FnExactSealText.j1 kj13 t350 true t338 t351 t352))) else (laws_FnExactSealText.j1 kj13 t350 true t338 t351 t352))))) else (some false))) = some r := H; have A68 := zA A680; clear A680
      by_cases c69 : t353 < 0
      ·rw [if_pos c69] at H
       have c69b0 : decide (t353 < 0) = true := zX c69; clear c69; exact absurd ((yM H).trans hr_.out) (by decide)
      ·rw [if_neg c69] at H
       have c69b0 : decide (t353 < 0) = false := decide_eq_false c69; clear c69
       by_cases c70 : t353 = t350
       ·rw [if_pos c70] at H
        have c70b0 : (t353 == t350) = true := beq_iff_eq.mpr c70; have c70b1 : (t353 != t350) = false := bne_eq_false_iff_eq.mpr c70; clear c70; replace H := zAF H; obtain ⟨⟨t354, t355⟩, A710, H⟩ := H; replace H : ((impl_SealText.f kj13 t354 t355 a1).bind fun bt356 => ((laws_eqSigner.f bt356.1 bt356.2.1 t322 t323).bind fun t368 => (if t368 = true then ((laws_eqSeal.f kj13 bt356.2.2.1 bt356.2.2.2.1 bt356.2.2.2.2.1 t324 t325 t328).bind fun t369 => (if t369 = true then (laws_FnExactSealText.j1 kj13 t350 (bt356.2.2.2.2.2 != t331) t338 t351 t352) else (laws_FnExactSealText.j1 kj13 t350 true t338 t351 t352))) else (laws_FnExactSealText.j1 kj13 t350 true t338 t351 t352)))) = some r := H; have A71 := zA A710; clear A710; replace H := zAF H; obtain ⟨⟨t356, t357, t358, t359, t362, t365⟩, A720, H⟩ := H; replace H : ((laws_eqSigner.f t356 t357 t322 t323).bind fun t368 => (if t368 = true then ((laws_eqSeal.f kj13 t358 t359 t362 t324 t325 t328).bind fun t369 => (if t369 = true then (laws_FnExactSealText.j1 kj13 t350 (t365 != t331) t338 t351 t352) else (laws_FnExactSealText.j1 kj13 t350 true t338 t351 t352))) else (laws_FnExactSealText.j1 kj13 t350 true t338 t351 t352))) = some r := H; have A72 := zA A720; clear A720; have HC73 := zA H; clear H; have hnb74 := NB347_318.out; have hnc74 := NB318_347.out; have hnb75 := NB347_332.out; have hnc75 := NB332_347.out; have hnb76 := NB347_333.out; have hnc76 := NB333_347.out; have hnb77 := NB347_346.out; have hnc77 := NB346_347.out; have hcz78_0 := yL BK347.out 0 (.int .i64 t338) rfl; have hcz78_1 := yL BK347.out 1 (.slice Ao44 t339.length co44) rfl; have hcz78_2 := yL BK347.out 2 (.slice Ao45 t342.length co45) rfl; have hfz78_0 := zO BK347.out 0; have hfz78_1 := zO BK347.out 1; have hfz78_2 := zO BK347.out 2; go_upto_region 20 with (first | ((with_reducible refine yB (f := 28) rfl ?_); refine goesL_ (some 58) rfl rfl Try.func28 (by kernel_rfl) rfl #[.agg #[.int .i64 t338, .slice Ao44 t339.length co44, .slice Ao45 t342.length co45], .int .i64 1] rfl (by (try simp only [zAA, zAB, zAC]); first | done | rfl | (simp only [zZ, zY]; rfl)) ?_; (with_reducible refine (laws_markSeal.calls kj13 t338 (fun k_ => some k_ = (.slice Ao44 t339.length co44 : Value).ownBlock) (.slice Ao44 t339.length co44) t339 (fun k_ => some k_ = (.slice Ao45 t342.length co45 : Value).ownBlock) (.slice Ao45 t342.length co45) t342 1 t350 t351 t352 w _ ?side1 ?side2 ?side3 ?side4 ?side5 A67.out).mono ?_); (case side1 => repeat (first | (with_reducible first | exact HB.out | apply zH | apply zF | apply zG | refine zI ?_ GE318.out | refine zI ?_ GE332.out | refine zI ?_ GE333.out | refine zI ?_ GE346.out | refine zI ?_ GE347.out) | exact HB.out)); (case side2 => exact Kd.R_tight rfl HO_348001.out); (case side3 => exact fun k_ e_ => (HO_348001.out.1 k_ e_.symm).2.2); (case side4 => exact Kd.R_tight rfl HO_348002.out); (case side5 => exact fun k_ e_ => (HO_348002.out.1 k_ e_.symm).2.2); rintro e w79 ⟨rfl, hy0, hy1, hb, hkp⟩; refine ⟨_, rfl, ?_⟩; have n0_ := zA (yC (ok' := fun k_ => some k_ ≠ (.slice Ao29 t328.length co29 : Value).ownBlock ∧ some k_ ≠ (.slice Ao44 t339.length co44 : Value).ownBlock ∧ some k_ ≠ (.slice Ao45 t342.length co45 : Value).ownBlock) (Kd.R_keptB (HO_334001.out) hkp (fun k_ hk_ hs_ => Or.elim hs_ (fun e_ => (hk_.2.1) e_) (fun e_ => (hk_.2.2) e_))) (fun k_ hk_ => ⟨hk_.1.1, hk_.1.2.1, hk_.1.2.2⟩)); have n1_ := zA (yC (ok' := fun k_ => some k_ ≠ (.slice Ao28 t325.length co28 : Value).ownBlock ∧ some k_ ≠ (.slice Ao44 t339.length co44 : Value).ownBlock ∧ some k_ ≠ (.slice Ao45 t342.length co45 : Value).ownBlock) (Kd.R_keptB (HO_334002.out) hkp (fun k_ hk_ hs_ => Or.elim hs_ (fun e_ => (hk_.2.1) e_) (fun e_ => (hk_.2.2) e_))) (fun k_ hk_ => ⟨hk_.1.1, hk_.1.2.1, hk_.1.2.2⟩)); have n2_ := zA (Kd.R_reok rfl hy0 (fun k_ e_ => HO_348001.out.1 k_ e_)); have n3_ := zA (Kd.R_reok rfl hy1 (fun k_ e_ => HO_348002.out.1 k_ e_)); have n4_ := zA (blk_kept (by (with_reducible repeat (first | refine zL ?_ _ | refine zN ?_ | refine zM ?_ _)); exact BK318.out) hkp (fun hs_ => Or.elim hs_ (fun e_ => (fun e_ => (Kd.R_ne HO_348001.out BK318.out (by decide)) e_) e_) (fun e_ => (fun e_ => (Kd.R_ne HO_348002.out BK318.out (by decide)) e_) e_))); have n5_ := zA (blk_kept (by (with_reducible repeat (first | refine zL ?_ _ | refine zN ?_ | refine zM ?_ _)); exact BK332.out) hkp (fun hs_ => Or.elim hs_ (fun e_ => (fun e_ => (Kd.R_ne HO_348001.out BK332.out (by decide)) e_) e_) (fun e_ => (fun e_ => (Kd.R_ne HO_348002.out BK332.out (by decide)) e_) e_))); have n6_ := zA (blk_kept (by (with_reducible repeat (first | refine zL ?_ _ | refine zN ?_ | refine zM ?_ _)); exact BK333.out) hkp (fun hs_ => Or.elim hs_ (fun e_ => (fun e_ => (Kd.R_ne HO_348001.out BK333.out (by decide)) e_) e_) (fun e_ => (fun e_ => (Kd.R_ne HO_348002.out BK333.out (by decide)) e_) e_))); have n7_ := zA (blk_kept (by (with_reducible repeat (first | refine zL ?_ _ | refine zN ?_ | refine zM ?_ _)); exact BK346.out) hkp (fun hs_ => Or.elim hs_ (fun e_ => (fun e_ => (Kd.R_ne HO_348001.out BK346.out (by decide)) e_) e_) (fun e_ => (fun e_ => (Kd.R_ne HO_348002.out BK346.out (by decide)) e_) e_))); have n8_ := zA (blk_kept (by (with_reducible repeat (first | refine zL ?_ _ | refine zN ?_ | refine zM ?_ _)); exact BK347.out) hkp (fun hs_ => Or.elim hs_ (fun e_ => (fun e_ => (Kd.R_ne HO_348001.out BK347.out (by decide)) e_) e_) (fun e_ => (fun e_ => (Kd.R_ne HO_348002.out BK347.out (by decide)) e_) e_))); have n9_ := zA (hb); clear HO_334001; clear HO_334002; clear HO_348001; clear HO_348002; clear BK318; clear BK332; clear BK333; clear BK346; clear BK347; clear HB; have HO_334001 := n0_; have HO_334002 := n1_; have HO_348001 := n2_; have HO_348002 := n3_; have BK318 := n4_; have BK332 := n5_; have BK333 := n6_; have BK346 := n7_; have BK347 := n8_; have HB := n9_; clear n0_ n1_ n2_ n3_ n4_ n5_ n6_ n7_ n8_ n9_; (try clear hb); (try clear hkp); (try clear hy0); (try clear hy1); have hcz80_0 := yL BK347.out 0 (.int .i64 t338) rfl; have hcz80_1 := yL BK347.out 1 (.slice Ao44 t339.length co44) rfl; have hcz80_2 := yL BK347.out 2 (.slice Ao45 t342.length co45) rfl; have hfz80_0 := zO BK347.out 0; have hfz80_1 := zO BK347.out 1; have hfz80_2 := zO BK347.out 2) | ((with_reducible refine yB (f := 29) rfl ?_); refine goesL_ (some 61) rfl rfl Try.func29 (by kernel_rfl) rfl #[.agg #[.int .i64 t338, .slice Ao44 t351.length co44, .slice Ao45 t352.length co45], .int .i64 1] rfl (by (try simp only [zAA, zAB, zAC]); first | done | (rw [show t351.length = t339.length from (yD HO_348001.out).1.symm, show t352.length = t342.length from (yD HO_348002.out).1.symm] <;> rfl) | rfl | (simp only [zZ, zY]; rfl)) ?_; (with_reducible refine (laws_heldSeal.calls kj13 t338 _ _ t351 _ _ t352 1 t353 _ ?side1 ?side2 ?side3 ?side4 A68.out).mono ?_); (case side1 => repeat (first | exact (yD HO_348001.out).2.2 | (with_reducible first | refine zT ?_ _ | refine zU ?_ _ | refine zV ?_))); (case side2 => rw [show t351.length = t339.length from (yD HO_348001.out).1.symm]; exact (yD HO_348001.out).2.1); (case side3 => repeat (first | exact (yD HO_348002.out).2.2 | (with_reducible first | refine zT ?_ _ | refine zU ?_ _ | refine zV ?_))); (case side4 => rw [show t352.length = t342.length from (yD HO_348002.out).1.symm]; exact (yD HO_348002.out).2.1); rintro e w81 ⟨rfl, hb⟩; refine ⟨_, rfl, ?_⟩; have n0_ := zA (Kd.R_below (by (with_reducible repeat first | apply zQ | apply zR | apply zS); exact HO_334001.out) hb); have n1_ := zA (Kd.R_below (by (with_reducible repeat first | apply zQ | apply zR | apply zS); exact HO_334002.out) hb); have n2_ := zA (Kd.R_below (by (with_reducible repeat first | apply zQ | apply zR | apply zS); exact HO_348001.out) hb); have n3_ := zA (Kd.R_below (by (with_reducible repeat first | apply zQ | apply zR | apply zS); exact HO_348002.out) hb); have n4_ := zA (yE (g := gb318) (o := .cells #[.string a0_0, .int .i64 a0_1] 43 (0, 0)) (by (with_reducible repeat (first | refine zL ?_ _ | refine zN ?_ | refine zM ?_ _)); exact BK318.out) hb); have n5_ := zA (yE (g := gb332) (o := .cells #[.string t322, .int .i64 t323] 45 (0, 0)) (by (with_reducible repeat (first | refine zL ?_ _ | refine zN ?_ | refine zM ?_ _)); exact BK332.out) hb); have n6_ := zA (yE (g := gb333) (o := .cells #[.int .i64 t324, .slice Ao28 t325.length co28, .slice Ao29 t328.length co29] 47 (0, 0)) (by (with_reducible repeat (first | refine zL ?_ _ | refine zN ?_ | refine zM ?_ _)); exact BK333.out) hb); have n7_ := zA (yE (g := gb346) (o := .cells #[.string t336, .int .i64 t337] 45 (0, 0)) (by (with_reducible repeat (first | refine zL ?_ _ | refine zN ?_ | refine zM ?_ _)); exact BK346.out) hb); have n8_ := zA (yE (g := gb347) (o := .cells #[.int .i64 t338, .slice Ao44 t339.length co44, .slice Ao45 t342.length co45] 47 (0, 0)) (by (with_reducible repeat (first | refine zL ?_ _ | refine zN ?_ | refine zM ?_ _)); exact BK347.out) hb); have n9_ := zA (zAD (by repeat (first | (with_reducible first | exact HB.out | apply zH | apply zF | apply zG | refine zI ?_ GE318.out | refine zI ?_ GE332.out | refine zI ?_ GE333.out | refine zI ?_ GE346.out | refine zI ?_ GE347.out) | exact HB.out)) hb); clear HO_334001; clear HO_334002; clear HO_348001; clear HO_348002; clear BK318; clear BK332; clear BK333; clear BK346; clear BK347; clear HB; have HO_334001 := n0_; have HO_334002 := n1_; have HO_348001 := n2_; have HO_348002 := n3_; have BK318 := n4_; have BK332 := n5_; have BK333 := n6_; have BK346 := n7_; have BK347 := n8_; have HB := n9_; clear n0_ n1_ n2_ n3_ n4_ n5_ n6_ n7_ n8_ n9_; (try clear hb); have hnb82 := NB318_332.out; have hnc82 := NB332_318.out; have hnb83 := NB318_333.out; have hnc83 := NB333_318.out; have hnb84 := NB318_346.out; have hnc84 := NB346_318.out; have hcz85_0 := yL BK318.out 0 (.string a0_0) rfl; have hcz85_1 := yL BK318.out 1 (.int .i64 a0_1) rfl; have hfz85_0 := zO BK318.out 0; have hfz85_1 := zO BK318.out 1) | ((with_reducible refine yB (f := 24) rfl ?_); refine goesL_ (some 69) rfl rfl Try.func24 (by kernel_rfl) rfl #[.agg #[.string a0_0, .int .i64 a0_1]] rfl (by (try simp only [zAA, zAB, zAC]); first | done | rfl) ?_; (with_reducible refine (laws_toSigner.calls a0_0 a0_1 t354 t355 _ A71.out).mono ?_); rintro e w86 ⟨rfl, hb⟩; refine ⟨_, rfl, ?_⟩; have n0_ := zA (Kd.R_below (by (with_reducible repeat first | apply zQ | apply zR | apply zS); exact HO_334001.out) hb); have n1_ := zA (Kd.R_below (by (with_reducible repeat first | apply zQ | apply zR | apply zS); exact HO_334002.out) hb); have n2_ := zA (Kd.R_below (by (with_reducible repeat first | apply zQ | apply zR | apply zS); exact HO_348001.out) hb); have n3_ := zA (Kd.R_below (by (with_reducible repeat first | apply zQ | apply zR | apply zS); exact HO_348002.out) hb); have n4_ := zA (yE (g := gb318) (o := .cells #[.string a0_0, .int .i64 a0_1] 43 (0, 0)) (by (with_reducible repeat (first | refine zL ?_ _ | refine zN ?_ | refine zM ?_ _)); exact BK318.out) hb); have n5_ := zA (yE (g := gb332) (o := .cells #[.string t322, .int .i64 t323] 45 (0, 0)) (by (with_reducible repeat (first | refine zL ?_ _ | refine zN ?_ | refine zM ?_ _)); exact BK332.out) hb); have n6_ := zA (yE (g := gb333) (o := .cells #[.int .i64 t324, .slice Ao28 t325.length co28, .slice Ao29 t328.length co29] 47 (0, 0)) (by (with_reducible repeat (first | refine zL ?_ _ | refine zN ?_ | refine zM ?_ _)); exact BK333.out) hb); have n7_ := zA (yE (g := gb346) (o := .cells #[.string t336, .int .i64 t337] 45 (0, 0)) (by (with_reducible repeat (first | refine zL ?_ _ | refine zN ?_ | refine zM ?_ _)); exact BK346.out) hb); have n8_ := zA (yE (g := gb347) (o := .cells #[.int .i64 t338, .slice Ao44 t339.length co44, .slice Ao45 t342.length co45] 47 (0, 0)) (by (with_reducible repeat (first | refine zL ?_ _ | refine zN ?_ | refine zM ?_ _)); exact BK347.out) hb); have n9_ := zA (zAD (by repeat (first | (with_reducible first | exact HB.out | apply zH | apply zF | apply zG | refine zI ?_ GE318.out | refine zI ?_ GE332.out | refine zI ?_ GE333.out | refine zI ?_ GE346.out | refine zI ?_ GE347.out) | exact HB.out)) hb); clear HO_334001; clear HO_334002; clear HO_348001; clear HO_348002; clear BK318; clear BK332; clear BK333; clear BK346; clear BK347; clear HB; have HO_334001 := n0_; have HO_334002 := n1_; have HO_348001 := n2_; have HO_348002 := n3_; have BK318 := n4_; have BK332 := n5_; have BK333 := n6_; have BK346 := n7_; have BK347 := n8_; have HB := n9_; clear n0_ n1_ n2_ n3_ n4_ n5_ n6_ n7_ n8_ n9_; (try clear hb)) | ((with_reducible refine yB (f := 25) rfl ?_); refine goesL_ (some 71) rfl rfl Try.func25 (by kernel_rfl) rfl #[.agg #[.string t354, .int .i64 t355], .string a1] rfl (by (try simp only [zAA, zAB, zAC]); first | done | rfl) ?_; (with_reducible refine (impl_SealText.calls kj13 t354 t355 a1 t356 t357 t358 t359 t362 t365 _ A72.out).mono ?_); rintro e w87 ⟨v360, v363, rfl, ho0, ho1, hb⟩; refine ⟨_, rfl, ?_⟩; have n0_ := zA (yC (Kd.R_told (Kd.R_told (Kd.R_old (by (with_reducible repeat first | apply zQ | apply zR | apply zS); exact HO_334001.out) hb) (Kd.R_base ho0)) (Kd.R_base ho1)) (fun _ h_ => h_.1)); have n1_ := zA (yC (Kd.R_told (Kd.R_told (Kd.R_old (by (with_reducible repeat first | apply zQ | apply zR | apply zS); exact HO_334002.out) hb) (Kd.R_base ho0)) (Kd.R_base ho1)) (fun _ h_ => h_.1)); have n2_ := zA (yC (Kd.R_told (Kd.R_told (Kd.R_old (by (with_reducible repeat first | apply zQ | apply zR | apply zS); exact HO_348001.out) hb) (Kd.R_base ho0)) (Kd.R_base ho1)) (fun _ h_ => h_.1)); have n3_ := zA (yC (Kd.R_told (Kd.R_told (Kd.R_old (by (with_reducible repeat first | apply zQ | apply zR | apply zS); exact HO_348002.out) hb) (Kd.R_base ho0)) (Kd.R_base ho1)) (fun _ h_ => h_.1)); have n4_ := zA (Kd.R_lower (yK (yK (yK (yK ho0 (Kd.R_lt (by (with_reducible repeat first | apply zQ | apply zR | apply zS); exact HO_334001.out))) (Kd.R_lt (by (with_reducible repeat first | apply zQ | apply zR | apply zS); exact HO_334002.out))) (Kd.R_lt (by (with_reducible repeat first | apply zQ | apply zR | apply zS); exact HO_348001.out))) (Kd.R_lt (by (with_reducible repeat first | apply zQ | apply zR | apply zS); exact HO_348002.out))) (zAE (by repeat (first | (with_reducible first | exact HB.out | apply zH | apply zF | apply zG | refine zI ?_ GE318.out | refine zI ?_ GE332.out | refine zI ?_ GE333.out | refine zI ?_ GE346.out | refine zI ?_ GE347.out) | exact HB.out)))); have n5_ := zA (Kd.R_lower (yK (yK (yK (yK ho1 (Kd.R_lt (by (with_reducible repeat first | apply zQ | apply zR | apply zS); exact HO_334001.out))) (Kd.R_lt (by (with_reducible repeat first | apply zQ | apply zR | apply zS); exact HO_334002.out))) (Kd.R_lt (by (with_reducible repeat first | apply zQ | apply zR | apply zS); exact HO_348001.out))) (Kd.R_lt (by (with_reducible repeat first | apply zQ | apply zR | apply zS); exact HO_348002.out))) (zAE (by repeat (first | (with_reducible first | exact HB.out | apply zH | apply zF | apply zG | refine zI ?_ GE318.out | refine zI ?_ GE332.out | refine zI ?_ GE333.out | refine zI ?_ GE346.out | refine zI ?_ GE347.out) | exact HB.out)))); have n6_ := zA (yE (g := gb318) (o := .cells #[.string a0_0, .int .i64 a0_1] 43 (0, 0)) (by (with_reducible repeat (first | refine zL ?_ _ | refine zN ?_ | refine zM ?_ _)); exact BK318.out) hb); have n7_ := zA (yE (g := gb332) (o := .cells #[.string t322, .int .i64 t323] 45 (0, 0)) (by (with_reducible repeat (first | refine zL ?_ _ | refine zN ?_ | refine zM ?_ _)); exact BK332.out) hb); have n8_ := zA (yE (g := gb333) (o := .cells #[.int .i64 t324, .slice Ao28 t325.length co28, .slice Ao29 t328.length co29] 47 (0, 0)) (by (with_reducible repeat (first | refine zL ?_ _ | refine zN ?_ | refine zM ?_ _)); exact BK333.out) hb); have n9_ := zA (yE (g := gb346) (o := .cells #[.string t336, .int .i64 t337] 45 (0, 0)) (by (with_reducible repeat (first | refine zL ?_ _ | refine zN ?_ | refine zM ?_ _)); exact BK346.out) hb); have n10_ := zA (yE (g := gb347) (o := .cells #[.int .i64 t338, .slice Ao44 t339.length co44, .slice Ao45 t342.length co45] 47 (0, 0)) (by (with_reducible repeat (first | refine zL ?_ _ | refine zN ?_ | refine zM ?_ _)); exact BK347.out) hb); have n11_ := zA (zAD (by repeat (first | (with_reducible first | exact HB.out | apply zH | apply zF | apply zG | refine zI ?_ GE318.out | refine zI ?_ GE332.out | refine zI ?_ GE333.out | refine zI ?_ GE346.out | refine zI ?_ GE347.out) | exact HB.out)) hb); clear HO_334001; clear HO_334002; clear HO_348001; clear HO_348002; clear BK318; clear BK332; clear BK333; clear BK346; clear BK347; clear HB; have HO_334001 := n0_; have HO_334002 := n1_; have HO_348001 := n2_; have HO_348002 := n3_; have HO361 := n4_; have HO364 := n5_; have BK318 := n6_; have BK332 := n7_; have BK333 := n8_; have BK346 := n9_; have BK347 := n10_; have HB := n11_; clear n0_ n1_ n2_ n3_ n4_ n5_ n6_ n7_ n8_ n9_ n10_ n11_; (try clear hb); (try clear ho0); (try clear ho1)) | ((with_reducible refine gate_dst (N := 14) rfl ?_); refine box_event ?hg (N := 14) ?hd (cs := #[.string (⟨#[]⟩ : ByteArray), .int .i64 0]) (t := 45) ?hr ?_; (case hd => rfl); (case hg => rfl); (case hr => first | (go_simp; done) | (go_simp; rfl)); intro gb366 hg w88 hbox hb; have n0_ := zA (Kd.R_below (by (with_reducible repeat first | apply zQ | apply zR | apply zS); exact HO_334001.out) hb); have n1_ := zA (Kd.R_below (by (with_reducible repeat first | apply zQ | apply zR | apply zS); exact HO_334002.out) hb); have n2_ := zA (Kd.R_below (by (with_reducible repeat first | apply zQ | apply zR | apply zS); exact HO_348001.out) hb); have n3_ := zA (Kd.R_below (by (with_reducible repeat first | apply zQ | apply zR | apply zS); exact HO_348002.out) hb); have n4_ := zA (Kd.R_below (by (with_reducible repeat first | apply zQ | apply zR | apply zS); exact HO361.out) hb); have n5_ := zA (Kd.R_below (by (with_reducible repeat first | apply zQ | apply zR | apply zS); exact HO364.out) hb); have n6_ := zA (yE (g := gb318) (o := .cells #[.string a0_0, .int .i64 a0_1] 43 (0, 0)) (by (with_reducible repeat (first | refine zL ?_ _ | refine zN ?_ | refine zM ?_ _)); exact BK318.out) hb); have n7_ := zA (yE (g := gb332) (o := .cells #[.string t322, .int .i64 t323] 45 (0, 0)) (by (with_reducible repeat (first | refine zL ?_ _ | refine zN ?_ | refine zM ?_ _)); exact BK332.out) hb); have n8_ := zA (yE (g := gb333) (o := .cells #[.int .i64 t324, .slice Ao28 t325.length co28, .slice Ao29 t328.length co29] 47 (0, 0)) (by (with_reducible repeat (first | refine zL ?_ _ | refine zN ?_ | refine zM ?_ _)); exact BK333.out) hb); have n9_ := zA (yE (g := gb346) (o := .cells #[.string t336, .int .i64 t337] 45 (0, 0)) (by (with_reducible repeat (first | refine zL ?_ _ | refine zN ?_ | refine zM ?_ _)); exact BK346.out) hb); have n10_ := zA (yE (g := gb347) (o := .cells #[.int .i64 t338, .slice Ao44 t339.length co44, .slice Ao45 t342.length co45] 47 (0, 0)) (by (with_reducible repeat (first | refine zL ?_ _ | refine zN ?_ | refine zM ?_ _)); exact BK347.out) hb); have n11_ := zA (zAD (by repeat (first | (with_reducible first | exact HB.out | apply zH | apply zF | apply zG | refine zI ?_ GE318.out | refine zI ?_ GE332.out | refine zI ?_ GE333.out | refine zI ?_ GE346.out | refine zI ?_ GE347.out) | exact HB.out)) hb); have n12_ := zA (hbox); have n13_ := zA ((by rw [hg]; exact (zAE (by repeat (first | (with_reducible first | exact HB.out | apply zH | apply zF | apply zG | refine zI ?_ GE318.out | refine zI ?_ GE332.out | refine zI ?_ GE333.out | refine zI ?_ GE346.out | refine zI ?_ GE347.out) | exact HB.out))) : w.heap.size ≤ gb366)); have n14_ := zA ((by rw [hg]; exact (zAE (by repeat (first | (with_reducible first | exact HB.out | apply zH | apply zF | apply zG | refine zI ?_ GE318.out | refine zI ?_ GE332.out | refine zI ?_ GE333.out | refine zI ?_ GE346.out | refine zI ?_ GE347.out) | exact HB.out))) : w.heap.size ≤ gb366)); have n15_ := zA ((by rw [hg]; exact zK (blk_lt (g := gb318) (o := .cells #[.string a0_0, .int .i64 a0_1] 43 (0, 0)) (by (with_reducible repeat (first | refine zL ?_ _ | refine zN ?_ | refine zM ?_ _)); exact BK318.out)) : gb318 ≠ gb366)); have n16_ := zA ((by rw [hg]; exact Nat.ne_of_gt (blk_lt (g := gb318) (o := .cells #[.string a0_0, .int .i64 a0_1] 43 (0, 0)) (by (with_reducible repeat (first | refine zL ?_ _ | refine zN ?_ | refine zM ?_ _)); exact BK318.out)) : gb366 ≠ gb318)); have n17_ := zA ((by rw [hg]; exact zK (blk_lt (g := gb332) (o := .cells #[.string t322, .int .i64 t323] 45 (0, 0)) (by (with_reducible repeat (first | refine zL ?_ _ | refine zN ?_ | refine zM ?_ _)); exact BK332.out)) : gb332 ≠ gb366)); have n18_ := zA ((by rw [hg]; exact Nat.ne_of_gt (blk_lt (g := gb332) (o := .cells #[.string t322, .int .i64 t323] 45 (0, 0)) (by (with_reducible repeat (first | refine zL ?_ _ | refine zN ?_ | refine zM ?_ _)); exact BK332.out)) : gb366 ≠ gb332)); have n19_ := zA ((by rw [hg]; exact zK (blk_lt (g := gb333) (o := .cells #[.int .i64 t324, .slice Ao28 t325.length co28, .slice Ao29 t328.length co29] 47 (0, 0)) (by (with_reducible repeat (first | refine zL ?_ _ | refine zN ?_ | refine zM ?_ _)); exact BK333.out)) : gb333 ≠ gb366)); have n20_ := zA ((by rw [hg]; exact Nat.ne_of_gt (blk_lt (g := gb333) (o := .cells #[.int .i64 t324, .slice Ao28 t325.length co28, .slice Ao29 t328.length co29] 47 (0, 0)) (by (with_reducible repeat (first | refine zL ?_ _ | refine zN ?_ | refine zM ?_ _)); exact BK333.out)) : gb366 ≠ gb333)); have n21_ := zA ((by rw [hg]; exact zK (blk_lt (g := gb346) (o := .cells #[.string t336, .int .i64 t337] 45 (0, 0)) (by (with_reducible repeat (first | refine zL ?_ _ | refine zN ?_ | refine zM ?_ _)); exact BK346.out)) : gb346 ≠ gb366)); have n22_ := zA ((by rw [hg]; exact Nat.ne_of_gt (blk_lt (g := gb346) (o := .cells #[.string t336, .int .i64 t337] 45 (0, 0)) (by (with_reducible repeat (first | refine zL ?_ _ | refine zN ?_ | refine zM ?_ _)); exact BK346.out)) : gb366 ≠ gb346)); have n23_ := zA ((by rw [hg]; exact zK (blk_lt (g := gb347) (o := .cells #[.int .i64 t338, .slice Ao44 t339.length co44, .slice Ao45 t342.length co45] 47 (0, 0)) (by (with_reducible repeat (first | refine zL ?_ _ | refine zN ?_ | refine zM ?_ _)); exact BK347.out)) : gb347 ≠ gb366)); have n24_ := zA ((by rw [hg]; exact Nat.ne_of_gt (blk_lt (g := gb347) (o := .cells #[.int .i64 t338, .slice Ao44 t339.length co44, .slice Ao45 t342.length co45] 47 (0, 0)) (by (with_reducible repeat (first | refine zL ?_ _ | refine zN ?_ | refine zM ?_ _)); exact BK347.out)) : gb366 ≠ gb347)); clear HO_334001; clear HO_334002; clear HO_348001; clear HO_348002; clear HO361; clear HO364; clear BK318; clear BK332; clear BK333; clear BK346; clear BK347; clear HB; have HO_334001 := n0_; have HO_334002 := n1_; have HO_348001 := n2_; have HO_348002 := n3_; have HO361 := n4_; have HO364 := n5_; have BK318 := n6_; have BK332 := n7_; have BK333 := n8_; have BK346 := n9_; have BK347 := n10_; have HB := n11_; have BK366 := n12_; have GW366 := n13_; have GE366 := n14_; have NB318_366 := n15_; have NB366_318 := n16_; have NB332_366 := n17_; have NB366_332 := n18_; have NB333_366 := n19_; have NB366_333 := n20_; have NB346_366 := n21_; have NB366_346 := n22_; have NB347_366 := n23_; have NB366_347 := n24_; clear n0_ n1_ n2_ n3_ n4_ n5_ n6_ n7_ n8_ n9_ n10_ n11_ n12_ n13_ n14_ n15_ n16_ n17_ n18_ n19_ n20_ n21_ n22_ n23_ n24_; clear hb hbox hg) | ((with_reducible refine gate_dst (N := 15) rfl ?_); refine box_event ?hg (N := 15) ?hd (cs := #[.int .i64 0, .slice none 0 0, .slice none 0 0]) (t := 47) ?hr ?_; (case hd => rfl); (case hg => rfl); (case hr => first | (go_simp; done) | (go_simp; rfl)); intro gb367 hg w89 hbox hb; have n0_ := zA (Kd.R_below (by (with_reducible repeat first | apply zQ | apply zR | apply zS); exact HO_334001.out) hb); have n1_ := zA (Kd.R_below (by (with_reducible repeat first | apply zQ | apply zR | apply zS); exact HO_334002.out) hb); have n2_ := zA (Kd.R_below (by (with_reducible repeat first | apply zQ | apply zR | apply zS); exact HO_348001.out) hb); have n3_ := zA (Kd.R_below (by (with_reducible repeat first | apply zQ | apply zR | apply zS); exact HO_348002.out) hb); have n4_ := zA (Kd.R_below (by (with_reducible repeat first | apply zQ | apply zR | apply zS); exact HO361.out) hb); have n5_ := zA (Kd.R_below (by (with_reducible repeat first | apply zQ | apply zR | apply zS); exact HO364.out) hb); have n6_ := zA (yE (g := gb318) (o := .cells #[.string a0_0, .int .i64 a0_1] 43 (0, 0)) (by (with_reducible repeat (first | refine zL ?_ _ | refine zN ?_ | refine zM ?_ _)); exact BK318.out) hb); have n7_ := zA (yE (g := gb332) (o := .cells #[.string t322, .int .i64 t323] 45 (0, 0)) (by (with_reducible repeat (first | refine zL ?_ _ | refine zN ?_ | refine zM ?_ _)); exact BK332.out) hb); have n8_ := zA (yE (g := gb333) (o := .cells #[.int .i64 t324, .slice Ao28 t325.length co28, .slice Ao29 t328.length co29] 47 (0, 0)) (by (with_reducible repeat (first | refine zL ?_ _ | refine zN ?_ | refine zM ?_ _)); exact BK333.out) hb); have n9_ := zA (yE (g := gb346) (o := .cells #[.string t336, .int .i64 t337] 45 (0, 0)) (by (with_reducible repeat (first | refine zL ?_ _ | refine zN ?_ | refine zM ?_ _)); exact BK346.out) hb); have n10_ := zA (yE (g := gb347) (o := .cells #[.int .i64 t338, .slice Ao44 t339.length co44, .slice Ao45 t342.length co45] 47 (0, 0)) (by (with_reducible repeat (first | refine zL ?_ _ | refine zN ?_ | refine zM ?_ _)); exact BK347.out) hb); have n11_ := zA (yE (g := gb366) (o := .cells #[.string (⟨#[]⟩ : ByteArray), .int .i64 0] 45 (0, 0)) (by (with_reducible repeat (first | refine zL ?_ _ | refine zN ?_ | refine zM ?_ _)); exact BK366.out) hb); have n12_ := zA (zAD (by repeat (first | (with_reducible first | exact HB.out | apply zH | apply zF | apply zG | refine zI ?_ GE318.out | refine zI ?_ GE332.out | refine zI ?_ GE333.out | refine zI ?_ GE346.out | refine zI ?_ GE347.out | refine zI ?_ GE366.out) | exact HB.out)) hb); have n13_ := zA (hbox); have n14_ := zA ((by rw [hg]; exact (zAE (by repeat (first | (with_reducible first | exact HB.out | apply zH | apply zF | apply zG | refine zI ?_ GE318.out | refine zI ?_ GE332.out | refine zI ?_ GE333.out | refine zI ?_ GE346.out | refine zI ?_ GE347.out | refine zI ?_ GE366.out) | exact HB.out))) : w.heap.size ≤ gb367)); have n15_ := zA ((by rw [hg]; exact (zAE (by repeat (first | (with_reducible first | exact HB.out | apply zH | apply zF | apply zG | refine zI ?_ GE318.out | refine zI ?_ GE332.out | refine zI ?_ GE333.out | refine zI ?_ GE346.out | refine zI ?_ GE347.out | refine zI ?_ GE366.out) | exact HB.out))) : w.heap.size ≤ gb367)); have n16_ := zA ((by rw [hg]; exact zK (blk_lt (g := gb318) (o := .cells #[.string a0_0, .int .i64 a0_1] 43 (0, 0)) (by (with_reducible repeat (first | refine zL ?_ _ | refine zN ?_ | refine zM ?_ _)); exact BK318.out)) : gb318 ≠ gb367)); have n17_ := zA ((by rw [hg]; exact Nat.ne_of_gt (blk_lt (g := gb318) (o := .cells #[.string a0_0, .int .i64 a0_1] 43 (0, 0)) (by (with_reducible repeat (first | refine zL ?_ _ | refine zN ?_ | refine zM ?_ _)); exact BK318.out)) : gb367 ≠ gb318)); have n18_ := zA ((by rw [hg]; exact zK (blk_lt (g := gb332) (o := .cells #[.string t322, .int .i64 t323] 45 (0, 0)) (by (with_reducible repeat (first | refine zL ?_ _ | refine zN ?_ | refine zM ?_ _)); exact BK332.out)) : gb332 ≠ gb367)); have n19_ := zA ((by rw [hg]; exact Nat.ne_of_gt (blk_lt (g := gb332) (o := .cells #[.string t322, .int .i64 t323] 45 (0, 0)) (by (with_reducible repeat (first | refine zL ?_ _ | refine zN ?_ | refine zM ?_ _)); exact BK332.out)) : gb367 ≠ gb332)); have n20_ := zA ((by rw [hg]; exact zK (blk_lt (g := gb333) (o := .cells #[.int .i64 t324, .slice Ao28 t325.length co28, .slice Ao29 t328.length co29] 47 (0, 0)) (by (with_reducible repeat (first | refine zL ?_ _ | refine zN ?_ | refine zM ?_ _)); exact BK333.out)) : gb333 ≠ gb367)); have n21_ := zA ((by rw [hg]; exact Nat.ne_of_gt (blk_lt (g := gb333) (o := .cells #[.int .i64 t324, .slice Ao28 t325.length co28, .slice Ao29 t328.length co29] 47 (0, 0)) (by (with_reducible repeat (first | refine zL ?_ _ | refine zN ?_ | refine zM ?_ _)); exact BK333.out)) : gb367 ≠ gb333)); have n22_ := zA ((by rw [hg]; exact zK (blk_lt (g := gb346) (o := .cells #[.string t336, .int .i64 t337] 45 (0, 0)) (by (with_reducible repeat (first | refine zL ?_ _ | refine zN ?_ | refine zM ?_ _)); exact BK346.out)) : gb346 ≠ gb367)); have n23_ := zA ((by rw [hg]; exact Nat.ne_of_gt (blk_lt (g := gb346) (o := .cells #[.string t336, .int .i64 t337] 45 (0, 0)) (by (with_reducible repeat (first | refine zL ?_ _ | refine zN ?_ | refine zM ?_ _)); exact BK346.out)) : gb367 ≠ gb346)); have n24_ := zA ((by rw [hg]; exact zK (blk_lt (g := gb347) (o := .cells #[.int .i64 t338, .slice Ao44 t339.length co44, .slice Ao45 t342.length co45] 47 (0, 0)) (by (with_reducible repeat (first | refine zL ?_ _ | refine zN ?_ | refine zM ?_ _)); exact BK347.out)) : gb347 ≠ gb367)); have n25_ := zA ((by rw [hg]; exact Nat.ne_of_gt (blk_lt (g := gb347) (o := .cells #[.int .i64 t338, .slice Ao44 t339.length co44, .slice Ao45 t342.length co45] 47 (0, 0)) (by (with_reducible repeat (first | refine zL ?_ _ | refine zN ?_ | refine zM ?_ _)); exact BK347.out)) : gb367 ≠ gb347)); have n26_ := zA ((by rw [hg]; exact zK (blk_lt (g := gb366) (o := .cells #[.string (⟨#[]⟩ : ByteArray), .int .i64 0] 45 (0, 0)) (by (with_reducible repeat (first | refine zL ?_ _ | refine zN ?_ | refine zM ?_ _)); exact BK366.out)) : gb366 ≠ gb367)); have n27_ := zA ((by rw [hg]; exact Nat.ne_of_gt (blk_lt (g := gb366) (o := .cells #[.string (⟨#[]⟩ : ByteArray), .int .i64 0] 45 (0, 0)) (by (with_reducible repeat (first | refine zL ?_ _ | refine zN ?_ | refine zM ?_ _)); exact BK366.out)) : gb367 ≠ gb366)); clear HO_334001; clear HO_334002; clear HO_348001; clear HO_348002; clear HO361; clear HO364; clear BK318; clear BK332; clear BK333; clear BK346; clear BK347; clear BK366; clear HB; have HO_334001 := n0_; have HO_334002 := n1_; have HO_348001 := n2_; have HO_348002 := n3_; have HO361 := n4_; have HO364 := n5_; have BK318 := n6_; have BK332 := n7_; have BK333 := n8_; have BK346 := n9_; have BK347 := n10_; have BK366 := n11_; have HB := n12_; have BK367 := n13_; have GW367 := n14_; have GE367 := n15_; have NB318_367 := n16_; have NB367_318 := n17_; have NB332_367 := n18_; have NB367_332 := n19_; have NB333_367 := n20_; have NB367_333 := n21_; have NB346_367 := n22_; have NB367_346 := n23_; have NB347_367 := n24_; have NB367_347 := n25_; have NB366_367 := n26_; have NB367_366 := n27_; clear n0_ n1_ n2_ n3_ n4_ n5_ n6_ n7_ n8_ n9_ n10_ n11_ n12_ n13_ n14_ n15_ n16_ n17_ n18_ n19_ n20_ n21_ n22_ n23_ n24_ n25_ n26_ n27_; clear hb hbox hg; have hnb90 := NB366_318.out; have hnc90 := NB318_366.out; have hnb91 := NB366_332.out; have hnc91 := NB332_366.out; have hnb92 := NB366_333.out; have hnc92 := NB333_366.out; have hnb93 := NB366_346.out; have hnc93 := NB346_366.out; have hnb94 := NB366_347.out; have hnc94 := NB347_366.out; have hnb95 := NB366_367.out; have hnc95 := NB367_366.out; have hcz96_0 := yL BK366.out 0 (.string (⟨#[]⟩ : ByteArray)) rfl; have hcz96_1 := yL BK366.out 1 (.int .i64 0) rfl; have hfz96_0 := zO BK366.out 0; have hfz96_1 := zO BK366.out 1; have hnb97 := NB367_318.out; have hnc97 := NB318_367.out; have hnb98 := NB367_332.out; have hnc98 := NB332_367.out; have hnb99 := NB367_333.out; have hnc99 := NB333_367.out; have hnb100 := NB367_346.out; have hnc100 := NB346_367.out; have hnb101 := NB367_347.out; have hnc101 := NB347_367.out; have hcz102_0 := yL BK367.out 0 (.int .i64 0) rfl; have hcz102_1 := yL BK367.out 1 (.slice none 0 0) rfl; have hcz102_2 := yL BK367.out 2 (.slice none 0 0) rfl; have hfz102_0 := zO BK367.out 0; have hfz102_1 := zO BK367.out 1; have hfz102_2 := zO BK367.out 2; obtain ⟨Ao103, co103, eo103⟩ := Kd.R_slice HO361.out; subst eo103; obtain ⟨Ao104, co104, eo104⟩ := Kd.R_slice HO364.out; subst eo104))
        (try simp only [Act.put, zC, zD, zE]); go_cut [89] (fun v89 wc => ∃ (kq : Nat) (x89_72 : Bool), v89 = .bool x89_72 ∧ Aside0 (laws_FnExactSealText.j1 kq t350 x89_72 t338 t351 t352 = some r) ∧ Aside0 (kq ≤ kj13) ∧ Aside0 (Kd.R Kd.string 9 wc w.heap.size (fun k_ => some k_ ≠ ((.slice Ao29 t328.length co29) : Value).ownBlock ∧ some k_ ≠ ((.slice Ao44 t339.length co44) : Value).ownBlock ∧ some k_ ≠ ((.slice Ao45 t342.length co45) : Value).ownBlock ∧ some k_ ≠ ((.slice Ao103 t359.length co103) : Value).ownBlock ∧ some k_ ≠ ((.slice Ao104 t362.length co104) : Value).ownBlock) (.slice Ao28 t325.length co28) t325) ∧ Aside0 (Kd.R Kd.string 9 wc w.heap.size (fun k_ => some k_ ≠ ((.slice Ao28 t325.length co28) : Value).ownBlock ∧ some k_ ≠ ((.slice Ao44 t339.length co44) : Value).ownBlock ∧ some k_ ≠ ((.slice Ao45 t342.length co45) : Value).ownBlock ∧ some k_ ≠ ((.slice Ao103 t359.length co103) : Value).ownBlock ∧ some k_ ≠ ((.slice Ao104 t362.length co104) : Value).ownBlock) (.slice Ao29 t328.length co29) t328) ∧ Aside0 (Kd.R Kd.string 9 wc w.heap.size (fun k_ => some k_ ≠ ((.slice Ao28 t325.length co28) : Value).ownBlock ∧ some k_ ≠ ((.slice Ao29 t328.length co29) : Value).ownBlock ∧ some k_ ≠ ((.slice Ao45 t342.length co45) : Value).ownBlock ∧ some k_ ≠ ((.slice Ao103 t359.length co103) : Value).ownBlock ∧ some k_ ≠ ((.slice Ao104 t362.length co104) : Value).ownBlock) (.slice Ao44 t339.length co44) t351) ∧ Aside0 (Kd.R Kd.string 9 wc w.heap.size (fun k_ => some k_ ≠ ((.slice Ao28 t325.length co28) : Value).ownBlock ∧ some k_ ≠ ((.slice Ao29 t328.length co29) : Value).ownBlock ∧ some k_ ≠ ((.slice Ao44 t339.length co44) : Value).ownBlock ∧ some k_ ≠ ((.slice Ao103 t359.length co103) : Value).ownBlock ∧ some k_ ≠ ((.slice Ao104 t362.length co104) : Value).ownBlock) (.slice Ao45 t342.length co45) t352) ∧ Aside0 (Kd.R Kd.string 9 wc w.heap.size (fun k_ => some k_ ≠ ((.slice Ao28 t325.length co28) : Value).ownBlock ∧ some k_ ≠ ((.slice Ao29 t328.length co29) : Value).ownBlock ∧ some k_ ≠ ((.slice Ao44 t339.length co44) : Value).ownBlock ∧ some k_ ≠ ((.slice Ao45 t342.length co45) : Value).ownBlock ∧ some k_ ≠ ((.slice Ao104 t362.length co104) : Value).ownBlock) (.slice Ao103 t359.length co103) t359) ∧ Aside0 (Kd.R Kd.string 9 wc w.heap.size (fun k_ => some k_ ≠ ((.slice Ao28 t325.length co28) : Value).ownBlock ∧ some k_ ≠ ((.slice Ao29 t328.length co29) : Value).ownBlock ∧ some k_ ≠ ((.slice Ao44 t339.length co44) : Value).ownBlock ∧ some k_ ≠ ((.slice Ao45 t342.length co45) : Value).ownBlock ∧ some k_ ≠ ((.slice Ao103 t359.length co103) : Value).ownBlock) (.slice Ao104 t362.length co104) t362) ∧ Aside0 (wc.heap[gb318]? = some (.cells #[.string a0_0, .int .i64 a0_1] 43 (0, 0))) ∧ Aside0 (wc.heap[gb332]? = some (.cells #[.string t322, .int .i64 t323] 45 (0, 0))) ∧ Aside0 (wc.heap[gb333]? = some (.cells #[.int .i64 t324, (.slice Ao28 t325.length co28), (.slice Ao29 t328.length co29)] 47 (0, 0))) ∧ Aside0 (wc.heap[gb346]? = some (.cells #[.string t336, .int .i64 t337] 45 (0, 0))) ∧ Aside0 (wc.heap[gb347]? = some (.cells #[.int .i64 t338, (.slice Ao44 t339.length co44), (.slice Ao45 t342.length co45)] 47 (0, 0))) ∧ Aside0 (wc.heap[gb366]? = some (.cells #[.string t356, .int .i64 t357] 45 (0, 0))) ∧ Aside0 (wc.heap[gb367]? = some (.cells #[.int .i64 t358, (.slice Ao103 t359.length co103), (.slice Ao104 t362.length co104)] 47 (0, 0))) ∧ Aside0 (Below w.heap.size w wc))
        case first =>
         have H := HC73.out; clear HC73; replace H := zAF H; obtain ⟨t368, A1050, H⟩ := H; replace H : (if t368 = true then ((laws_eqSeal.f kj13 t358 t359 t362 t324 t325 t328).bind fun t369 => (if t369 = true then (laws_FnExactSealText.j1 kj13 t350 (t365 != t331) t338 t351 t352) else (laws_FnExactSealText.j1 kj13 t350 true t338 t351 t352))) else (laws_FnExactSealText.j1 kj13 t350 true t338 t351 t352)) = some r := H; have A105 := zA A1050; clear A1050
         by_cases c106 : t368 = true
         ·subst c106
          have H1 : ((laws_eqSeal.f kj13 t358 t359 t362 t324 t325 t328).bind fun t369 => (if t369 = true then (laws_FnExactSealText.j1 kj13 t350 (t365 != t331) t338 t351 t352) else (laws_FnExactSealText.j1 kj13 t350 true t338 t351 t352))) = some r := by rw [if_pos rfl] at H; exact H
          clear H; have H := H1; clear H1; replace H := zAF H; obtain ⟨t369, A1070, H⟩ := H; replace H : (if t369 = true then (laws_FnExactSealText.j1 kj13 t350 (t365 != t331) t338 t351 t352) else (laws_FnExactSealText.j1 kj13 t350 true t338 t351 t352)) = some r := H; have A107 := zA A1070; clear A1070
          by_cases c108 : t369 = true
          ·subst c108
           have H1 : (laws_FnExactSealText.j1 kj13 t350 (t365 != t331) t338 t351 t352) = some r := by rw [if_pos rfl] at H; exact H
           clear H; have H := H1; clear H1; have H' := zA H; clear H; have hnb109 := NB366_318.out; have hnc109 := NB318_366.out; have hnb110 := NB366_332.out; have hnc110 := NB332_366.out; have hnb111 := NB366_333.out; have hnc111 := NB333_366.out; have hnb112 := NB366_346.out; have hnc112 := NB346_366.out; have hnb113 := NB366_347.out; have hnc113 := NB347_366.out; have hnb114 := NB366_367.out; have hnc114 := NB367_366.out; have hcz115_0 := yL BK366.out 0 (.string (⟨#[]⟩ : ByteArray)) rfl; have hcz115_1 := yL BK366.out 1 (.int .i64 0) rfl; have hfz115_0 := zO BK366.out 0; have hfz115_1 := zO BK366.out 1; have hnb116 := NB332_318.out; have hnc116 := NB318_332.out; have hnb117 := NB332_333.out; have hnc117 := NB333_332.out; have hnb118 := NB332_346.out; have hnc118 := NB346_332.out; have hnb119 := NB332_347.out; have hnc119 := NB347_332.out; have hnb120 := NB332_367.out; have hnc120 := NB367_332.out; have hcz121_0 := yL BK332.out 0 (.string t322) rfl; have hcz121_1 := yL BK332.out 1 (.int .i64 t323) rfl; have hfz121_0 := zO BK332.out 0; have hfz121_1 := zO BK332.out 1; go_wp2_with (first | ((with_reducible refine yB (f := 26) rfl ?_); refine goesL_ (some 77) rfl rfl Try.func26 (by kernel_rfl) rfl #[.agg #[.string t356, .int .i64 t357], .agg #[.string t322, .int .i64 t323]] rfl (by (try simp only [zAA, zAB, zAC]); first | done | rfl) ?_; (with_reducible refine (laws_eqSigner.calls t356 t357 t322 t323 true _ A105.out ⟨rfl⟩).mono ?_); rintro e w122 ⟨rfl, hb⟩; refine ⟨_, rfl, ?_⟩; have n0_ := zA (Kd.R_below (by (with_reducible repeat first | apply zQ | apply zR | apply zS); exact (yC (yC (Kd.R_far (p := ⟨gb367, 2, none⟩) (Kd.R_far (p := ⟨gb367, 1, none⟩) (Kd.R_far (p := ⟨gb367, 0, none⟩) (Kd.R_far (p := ⟨gb366, 1, none⟩) (Kd.R_far (p := ⟨gb366, 0, none⟩) (Kd.R_types (Kd.R_types HO_334001.out BK366.out (by decide)) BK367.out (by decide)) (fun _ hk => hk.1.2) (.string t356)) (fun _ hk => hk.1.2) (.int .i64 t357)) (fun _ hk => hk.2) (.int .i64 t358)) (fun _ hk => hk.2) (.slice Ao103 t359.length co103)) (fun _ hk => hk.2) (.slice Ao104 t362.length co104)) (fun _ h_ => h_.1)) (fun _ h_ => h_.1))) hb); have n1_ := zA (Kd.R_below (by (with_reducible repeat first | apply zQ | apply zR | apply zS); exact (yC (yC (Kd.R_far (p := ⟨gb367, 2, none⟩) (Kd.R_far (p := ⟨gb367, 1, none⟩) (Kd.R_far (p := ⟨gb367, 0, none⟩) (Kd.R_far (p := ⟨gb366, 1, none⟩) (Kd.R_far (p := ⟨gb366, 0, none⟩) (Kd.R_types (Kd.R_types HO_334002.out BK366.out (by decide)) BK367.out (by decide)) (fun _ hk => hk.1.2) (.string t356)) (fun _ hk => hk.1.2) (.int .i64 t357)) (fun _ hk => hk.2) (.int .i64 t358)) (fun _ hk => hk.2) (.slice Ao103 t359.length co103)) (fun _ hk => hk.2) (.slice Ao104 t362.length co104)) (fun _ h_ => h_.1)) (fun _ h_ => h_.1))) hb); have n2_ := zA (Kd.R_below (by (with_reducible repeat first | apply zQ | apply zR | apply zS); exact (yC (yC (Kd.R_far (p := ⟨gb367, 2, none⟩) (Kd.R_far (p := ⟨gb367, 1, none⟩) (Kd.R_far (p := ⟨gb367, 0, none⟩) (Kd.R_far (p := ⟨gb366, 1, none⟩) (Kd.R_far (p := ⟨gb366, 0, none⟩) (Kd.R_types (Kd.R_types HO_348001.out BK366.out (by decide)) BK367.out (by decide)) (fun _ hk => hk.1.2) (.string t356)) (fun _ hk => hk.1.2) (.int .i64 t357)) (fun _ hk => hk.2) (.int .i64 t358)) (fun _ hk => hk.2) (.slice Ao103 t359.length co103)) (fun _ hk => hk.2) (.slice Ao104 t362.length co104)) (fun _ h_ => h_.1)) (fun _ h_ => h_.1))) hb); have n3_ := zA (Kd.R_below (by (with_reducible repeat first | apply zQ | apply zR | apply zS); exact (yC (yC (Kd.R_far (p := ⟨gb367, 2, none⟩) (Kd.R_far (p := ⟨gb367, 1, none⟩) (Kd.R_far (p := ⟨gb367, 0, none⟩) (Kd.R_far (p := ⟨gb366, 1, none⟩) (Kd.R_far (p := ⟨gb366, 0, none⟩) (Kd.R_types (Kd.R_types HO_348002.out BK366.out (by decide)) BK367.out (by decide)) (fun _ hk => hk.1.2) (.string t356)) (fun _ hk => hk.1.2) (.int .i64 t357)) (fun _ hk => hk.2) (.int .i64 t358)) (fun _ hk => hk.2) (.slice Ao103 t359.length co103)) (fun _ hk => hk.2) (.slice Ao104 t362.length co104)) (fun _ h_ => h_.1)) (fun _ h_ => h_.1))) hb); have n4_ := zA (Kd.R_below (by (with_reducible repeat first | apply zQ | apply zR | apply zS); exact (yC (yC (Kd.R_far (p := ⟨gb367, 2, none⟩) (Kd.R_far (p := ⟨gb367, 1, none⟩) (Kd.R_far (p := ⟨gb367, 0, none⟩) (Kd.R_far (p := ⟨gb366, 1, none⟩) (Kd.R_far (p := ⟨gb366, 0, none⟩) (Kd.R_types (Kd.R_types HO361.out BK366.out (by decide)) BK367.out (by decide)) (fun _ hk => hk.1.2) (.string t356)) (fun _ hk => hk.1.2) (.int .i64 t357)) (fun _ hk => hk.2) (.int .i64 t358)) (fun _ hk => hk.2) (.slice Ao103 t359.length co103)) (fun _ hk => hk.2) (.slice Ao104 t362.length co104)) (fun _ h_ => h_.1)) (fun _ h_ => h_.1))) hb); have n5_ := zA (Kd.R_below (by (with_reducible repeat first | apply zQ | apply zR | apply zS); exact (yC (yC (Kd.R_far (p := ⟨gb367, 2, none⟩) (Kd.R_far (p := ⟨gb367, 1, none⟩) (Kd.R_far (p := ⟨gb367, 0, none⟩) (Kd.R_far (p := ⟨gb366, 1, none⟩) (Kd.R_far (p := ⟨gb366, 0, none⟩) (Kd.R_types (Kd.R_types HO364.out BK366.out (by decide)) BK367.out (by decide)) (fun _ hk => hk.1.2) (.string t356)) (fun _ hk => hk.1.2) (.int .i64 t357)) (fun _ hk => hk.2) (.int .i64 t358)) (fun _ hk => hk.2) (.slice Ao103 t359.length co103)) (fun _ hk => hk.2) (.slice Ao104 t362.length co104)) (fun _ h_ => h_.1)) (fun _ h_ => h_.1))) hb); have n6_ := zA (yE (g := gb318) (o := .cells #[.string a0_0, .int .i64 a0_1] 43 (0, 0)) (by (with_reducible repeat (first | refine zL ?_ _ | refine zN ?_ | refine zM ?_ _)); refine blk_far ?_ NB318_367.out _; (with_reducible repeat (first | refine zL ?_ _ | refine zN ?_ | refine zM ?_ _)); refine blk_far ?_ NB318_367.out _; (with_reducible repeat (first | refine zL ?_ _ | refine zN ?_ | refine zM ?_ _)); refine blk_far ?_ NB318_367.out _; (with_reducible repeat (first | refine zL ?_ _ | refine zN ?_ | refine zM ?_ _)); refine blk_far ?_ NB318_366.out _; (with_reducible repeat (first | refine zL ?_ _ | refine zN ?_ | refine zM ?_ _)); refine blk_far ?_ NB318_366.out _; (with_reducible repeat (first | refine zL ?_ _ | refine zN ?_ | refine zM ?_ _)); exact BK318.out) hb); have n7_ := zA (yE (g := gb332) (o := .cells #[.string t322, .int .i64 t323] 45 (0, 0)) (by (with_reducible repeat (first | refine zL ?_ _ | refine zN ?_ | refine zM ?_ _)); refine blk_far ?_ NB332_367.out _; (with_reducible repeat (first | refine zL ?_ _ | refine zN ?_ | refine zM ?_ _)); refine blk_far ?_ NB332_367.out _; (with_reducible repeat (first | refine zL ?_ _ | refine zN ?_ | refine zM ?_ _)); refine blk_far ?_ NB332_367.out _; (with_reducible repeat (first | refine zL ?_ _ | refine zN ?_ | refine zM ?_ _)); refine blk_far ?_ NB332_366.out _; (with_reducible repeat (first | refine zL ?_ _ | refine zN ?_ | refine zM ?_ _)); refine blk_far ?_ NB332_366.out _; (with_reducible repeat (first | refine zL ?_ _ | refine zN ?_ | refine zM ?_ _)); exact BK332.out) hb); have n8_ := zA (yE (g := gb333) (o := .cells #[.int .i64 t324, .slice Ao28 t325.length co28, .slice Ao29 t328.length co29] 47 (0, 0)) (by (with_reducible repeat (first | refine zL ?_ _ | refine zN ?_ | refine zM ?_ _)); refine blk_far ?_ NB333_367.out _; (with_reducible repeat (first | refine zL ?_ _ | refine zN ?_ | refine zM ?_ _)); refine blk_far ?_ NB333_367.out _; (with_reducible repeat (first | refine zL ?_ _ | refine zN ?_ | refine zM ?_ _)); refine blk_far ?_ NB333_367.out _; (with_reducible repeat (first | refine zL ?_ _ | refine zN ?_ | refine zM ?_ _)); refine blk_far ?_ NB333_366.out _; (with_reducible repeat (first | refine zL ?_ _ | refine zN ?_ | refine zM ?_ _)); refine blk_far ?_ NB333_366.out _; (with_reducible repeat (first | refine zL ?_ _ | refine zN ?_ | refine zM ?_ _)); exact BK333.out) hb); have n9_ := zA (yE (g := gb346) (o := .cells #[.string t336, .int .i64 t337] 45 (0, 0)) (by (with_reducible repeat (first | refine zL ?_ _ | refine zN ?_ | refine zM ?_ _)); refine blk_far ?_ NB346_367.out _; (with_reducible repeat (first | refine zL ?_ _ | refine zN ?_ | refine zM ?_ _)); refine blk_far ?_ NB346_367.out _; (with_reducible repeat (first | refine zL ?_ _ | refine zN ?_ | refine zM ?_ _)); refine blk_far ?_ NB346_367.out _; (with_reducible repeat (first | refine zL ?_ _ | refine zN ?_ | refine zM ?_ _)); refine blk_far ?_ NB346_366.out _; (with_reducible repeat (first | refine zL ?_ _ | refine zN ?_ | refine zM ?_ _)); refine blk_far ?_ NB346_366.out _; (with_reducible repeat (first | refine zL ?_ _ | refine zN ?_ | refine zM ?_ _)); exact BK346.out) hb); have n10_ := zA (yE (g := gb347) (o := .cells #[.int .i64 t338, .slice Ao44 t339.length co44, .slice Ao45 t342.length co45] 47 (0, 0)) (by (with_reducible repeat (first | refine zL ?_ _ | refine zN ?_ | refine zM ?_ _)); refine blk_far ?_ NB347_367.out _; (with_reducible repeat (first | refine zL ?_ _ | refine zN ?_ | refine zM ?_ _)); refine blk_far ?_ NB347_367.out _; (with_reducible repeat (first | refine zL ?_ _ | refine zN ?_ | refine zM ?_ _)); refine blk_far ?_ NB347_367.out _; (with_reducible repeat (first | refine zL ?_ _ | refine zN ?_ | refine zM ?_ _)); refine blk_far ?_ NB347_366.out _; (with_reducible repeat (first | refine zL ?_ _ | refine zN ?_ | refine zM ?_ _)); refine blk_far ?_ NB347_366.out _; (with_reducible repeat (first | refine zL ?_ _ | refine zN ?_ | refine zM ?_ _)); exact BK347.out) hb); have n11_ := zA (yE (g := gb366) (o := .cells #[.string t356, .int .i64 t357] 45 (0, 0)) (by (with_reducible repeat (first | refine zL ?_ _ | refine zN ?_ | refine zM ?_ _)); refine blk_far ?_ NB366_367.out _; (with_reducible repeat (first | refine zL ?_ _ | refine zN ?_ | refine zM ?_ _)); refine blk_far ?_ NB366_367.out _; (with_reducible repeat (first | refine zL ?_ _ | refine zN ?_ | refine zM ?_ _)); refine blk_far ?_ NB366_367.out _; (with_reducible repeat (first | refine zL ?_ _ | refine zN ?_ | refine zM ?_ _)); refine blk_put (cs := #[.string t356, .int .i64 0]) ?_ 1 _ rfl; (with_reducible repeat (first | refine zL ?_ _ | refine zN ?_ | refine zM ?_ _)); refine blk_put (cs := #[.string (⟨#[]⟩ : ByteArray), .int .i64 0]) ?_ 0 _ rfl; (with_reducible repeat (first | refine zL ?_ _ | refine zN ?_ | refine zM ?_ _)); exact BK366.out) hb); have n12_ := zA (yE (g := gb367) (o := .cells #[.int .i64 t358, .slice Ao103 t359.length co103, .slice Ao104 t362.length co104] 47 (0, 0)) (by (with_reducible repeat (first | refine zL ?_ _ | refine zN ?_ | refine zM ?_ _)); refine blk_put (cs := #[.int .i64 t358, .slice Ao103 t359.length co103, .slice none 0 0]) ?_ 2 _ rfl; (with_reducible repeat (first | refine zL ?_ _ | refine zN ?_ | refine zM ?_ _)); refine blk_put (cs := #[.int .i64 t358, .slice none 0 0, .slice none 0 0]) ?_ 1 _ rfl; (with_reducible repeat (first | refine zL ?_ _ | refine zN ?_ | refine zM ?_ _)); refine blk_put (cs := #[.int .i64 0, .slice none 0 0, .slice none 0 0]) ?_ 0 _ rfl; (with_reducible repeat (first | refine zL ?_ _ | refine zN ?_ | refine zM ?_ _)); refine blk_far ?_ NB367_366.out _; (with_reducible repeat (first | refine zL ?_ _ | refine zN ?_ | refine zM ?_ _)); refine blk_far ?_ NB367_366.out _; (with_reducible repeat (first | refine zL ?_ _ | refine zN ?_ | refine zM ?_ _)); exact BK367.out) hb); have n13_ := zA (zAD (by repeat (first | (with_reducible first | exact HB.out | apply zH | apply zF | apply zG | refine zI ?_ GE318.out | refine zI ?_ GE332.out | refine zI ?_ GE333.out | refine zI ?_ GE346.out | refine zI ?_ GE347.out | refine zI ?_ GE366.out | refine zI ?_ GE367.out) | exact HB.out)) hb); clear HO_334001; clear HO_334002; clear HO_348001; clear HO_348002; clear HO361; clear HO364; clear BK318; clear BK332; clear BK333; clear BK346; clear BK347; clear BK366; clear BK367; clear HB; have HO_334001 := n0_; have HO_334002 := n1_; have HO_348001 := n2_; have HO_348002 := n3_; have HO361 := n4_; have HO364 := n5_; have BK318 := n6_; have BK332 := n7_; have BK333 := n8_; have BK346 := n9_; have BK347 := n10_; have BK366 := n11_; have BK367 := n12_; have HB := n13_; clear n0_ n1_ n2_ n3_ n4_ n5_ n6_ n7_ n8_ n9_ n10_ n11_ n12_ n13_; (try clear hb); (try clear hk); have hnb123 := NB367_318.out; have hnc123 := NB318_367.out; have hnb124 := NB367_333.out; have hnc124 := NB333_367.out; have hnb125 := NB367_346.out; have hnc125 := NB346_367.out; have hnb126 := NB367_347.out; have hnc126 := NB347_367.out; have hcz127_0 := yL BK367.out 0 (.int .i64 t358) rfl; have hcz127_1 := yL BK367.out 1 (.slice Ao103 t359.length co103) rfl; have hcz127_2 := yL BK367.out 2 (.slice Ao104 t362.length co104) rfl; have hfz127_0 := zO BK367.out 0; have hfz127_1 := zO BK367.out 1; have hfz127_2 := zO BK367.out 2; have hnb128 := NB333_318.out; have hnc128 := NB318_333.out; have hnb129 := NB333_346.out; have hnc129 := NB346_333.out; have hnb130 := NB333_347.out; have hnc130 := NB347_333.out; have hcz131_0 := yL BK333.out 0 (.int .i64 t324) rfl; have hcz131_1 := yL BK333.out 1 (.slice Ao28 t325.length co28) rfl; have hcz131_2 := yL BK333.out 2 (.slice Ao29 t328.length co29) rfl; have hfz131_0 := zO BK333.out 0; have hfz131_1 := zO BK333.out 1; have hfz131_2 := zO BK333.out 2) | (go_at_call 27; (with_reducible refine (laws_eqSeal.calls kj13 t358 _ _ t359 _ _ t362 t324 _ _ t325 _ _ t328 true _ ?side1 ?side2 ?side3 ?side4 ?side5 ?side6 ?side7 ?side8 A107.out ⟨rfl⟩).mono ?_); (case side1 => repeat (first | exact (yD HO361.out).2.2 | (with_reducible first | refine zT ?_ _ | refine zU ?_ _ | refine zV ?_))); (case side2 => exact (yD HO361.out).2.1); (case side3 => repeat (first | exact (yD HO364.out).2.2 | (with_reducible first | refine zT ?_ _ | refine zU ?_ _ | refine zV ?_))); (case side4 => exact (yD HO364.out).2.1); (case side5 => repeat (first | exact (yD HO_334001.out).2.2 | (with_reducible first | refine zT ?_ _ | refine zU ?_ _ | refine zV ?_))); (case side6 => exact (yD HO_334001.out).2.1); (case side7 => repeat (first | exact (yD HO_334002.out).2.2 | (with_reducible first | refine zT ?_ _ | refine zU ?_ _ | refine zV ?_))); (case side8 => exact (yD HO_334002.out).2.1); rintro e w132 ⟨rfl, hb⟩; have n0_ := zA (Kd.R_below (by (with_reducible repeat first | apply zQ | apply zR | apply zS); exact HO_334001.out) hb); have n1_ := zA (Kd.R_below (by (with_reducible repeat first | apply zQ | apply zR | apply zS); exact HO_334002.out) hb); have n2_ := zA (Kd.R_below (by (with_reducible repeat first | apply zQ | apply zR | apply zS); exact HO_348001.out) hb); have n3_ := zA (Kd.R_below (by (with_reducible repeat first | apply zQ | apply zR | apply zS); exact HO_348002.out) hb); have n4_ := zA (Kd.R_below (by (with_reducible repeat first | apply zQ | apply zR | apply zS); exact HO361.out) hb); have n5_ := zA (Kd.R_below (by (with_reducible repeat first | apply zQ | apply zR | apply zS); exact HO364.out) hb); have n6_ := zA (yE (g := gb318) (o := .cells #[.string a0_0, .int .i64 a0_1] 43 (0, 0)) (by (with_reducible repeat (first | refine zL ?_ _ | refine zN ?_ | refine zM ?_ _)); exact BK318.out) hb); have n7_ := zA (yE (g := gb332) (o := .cells #[.string t322, .int .i64 t323] 45 (0, 0)) (by (with_reducible repeat (first | refine zL ?_ _ | refine zN ?_ | refine zM ?_ _)); exact BK332.out) hb); have n8_ := zA (yE (g := gb333) (o := .cells #[.int .i64 t324, .slice Ao28 t325.length co28, .slice Ao29 t328.length co29] 47 (0, 0)) (by (with_reducible repeat (first | refine zL ?_ _ | refine zN ?_ | refine zM ?_ _)); exact BK333.out) hb); have n9_ := zA (yE (g := gb346) (o := .cells #[.string t336, .int .i64 t337] 45 (0, 0)) (by (with_reducible repeat (first | refine zL ?_ _ | refine zN ?_ | refine zM ?_ _)); exact BK346.out) hb); have n10_ := zA (yE (g := gb347) (o := .cells #[.int .i64 t338, .slice Ao44 t339.length co44, .slice Ao45 t342.length co45] 47 (0, 0)) (by (with_reducible repeat (first | refine zL ?_ _ | refine zN ?_ | refine zM ?_ _)); exact BK347.out) hb); have n11_ := zA (yE (g := gb366) (o := .cells #[.string t356, .int .i64 t357] 45 (0, 0)) (by (with_reducible repeat (first | refine zL ?_ _ | refine zN ?_ | refine zM ?_ _)); exact BK366.out) hb); have n12_ := zA (yE (g := gb367) (o := .cells #[.int .i64 t358, .slice Ao103 t359.length co103, .slice Ao104 t362.length co104] 47 (0, 0)) (by (with_reducible repeat (first | refine zL ?_ _ | refine zN ?_ | refine zM ?_ _)); exact BK367.out) hb); have n13_ := zA (zAD (by repeat (first | (with_reducible first | exact HB.out | apply zH | apply zF | apply zG | refine zI ?_ GE318.out | refine zI ?_ GE332.out | refine zI ?_ GE333.out | refine zI ?_ GE346.out | refine zI ?_ GE347.out | refine zI ?_ GE366.out | refine zI ?_ GE367.out) | exact HB.out)) hb); clear HO_334001; clear HO_334002; clear HO_348001; clear HO_348002; clear HO361; clear HO364; clear BK318; clear BK332; clear BK333; clear BK346; clear BK347; clear BK366; clear BK367; clear HB; have HO_334001 := n0_; have HO_334002 := n1_; have HO_348001 := n2_; have HO_348002 := n3_; have HO361 := n4_; have HO364 := n5_; have BK318 := n6_; have BK332 := n7_; have BK333 := n8_; have BK346 := n9_; have BK347 := n10_; have BK366 := n11_; have BK367 := n12_; have HB := n13_; clear n0_ n1_ n2_ n3_ n4_ n5_ n6_ n7_ n8_ n9_ n10_ n11_ n12_ n13_; (try clear hb)))
           go_meet
           case rel => exact ⟨_, ((t365 != t331)), (by first | rfl | (simp; done) | (simp [*]; done) | (simp [bne]; done)), H', ⟨by have := HJ13.out; first | omega | exact Nat.le_refl _⟩, ⟨by (with_reducible repeat first | apply zQ | apply zR | apply zS); exact yC HO_334001.out (fun _ hk => ⟨hk.1.1.1, ⟨hk.1.1.2.1, ⟨hk.1.1.2.2, ⟨hk.1.2, hk.2⟩⟩⟩⟩)⟩, ⟨by (with_reducible repeat first | apply zQ | apply zR | apply zS); exact yC HO_334002.out (fun _ hk => ⟨hk.1.1.1, ⟨hk.1.1.2.1, ⟨hk.1.1.2.2, ⟨hk.1.2, hk.2⟩⟩⟩⟩)⟩, ⟨by (with_reducible repeat first | apply zQ | apply zR | apply zS); exact yC HO_348001.out (fun _ hk => ⟨hk.1.1.1, ⟨hk.1.1.2.1, ⟨hk.1.1.2.2, ⟨hk.1.2, hk.2⟩⟩⟩⟩)⟩, ⟨by (with_reducible repeat first | apply zQ | apply zR | apply zS); exact yC HO_348002.out (fun _ hk => ⟨hk.1.1.1, ⟨hk.1.1.2.1, ⟨hk.1.1.2.2, ⟨hk.1.2, hk.2⟩⟩⟩⟩)⟩, ⟨by (with_reducible repeat first | apply zQ | apply zR | apply zS); exact yC HO361.out (fun _ hk => ⟨hk.1.1.1.2, ⟨hk.1.1.2, ⟨hk.1.2, ⟨hk.2, hk.1.1.1.1⟩⟩⟩⟩)⟩, ⟨by (with_reducible repeat first | apply zQ | apply zR | apply zS); exact yC HO364.out (fun _ hk => ⟨hk.1.1.1.2, ⟨hk.1.1.2, ⟨hk.1.2, ⟨hk.2, hk.1.1.1.1⟩⟩⟩⟩)⟩, ⟨by (with_reducible repeat (first | refine zL ?_ _ | refine zN ?_ | refine zM ?_ _)); exact BK318.out⟩, ⟨by (with_reducible repeat (first | refine zL ?_ _ | refine zN ?_ | refine zM ?_ _)); exact BK332.out⟩, ⟨by (with_reducible repeat (first | refine zL ?_ _ | refine zN ?_ | refine zM ?_ _)); exact BK333.out⟩, ⟨by (with_reducible repeat (first | refine zL ?_ _ | refine zN ?_ | refine zM ?_ _)); exact BK346.out⟩, ⟨by (with_reducible repeat (first | refine zL ?_ _ | refine zN ?_ | refine zM ?_ _)); exact BK347.out⟩, ⟨by (with_reducible repeat (first | refine zL ?_ _ | refine zN ?_ | refine zM ?_ _)); exact BK366.out⟩, ⟨by (with_reducible repeat (first | refine zL ?_ _ | refine zN ?_ | refine zM ?_ _)); exact BK367.out⟩, ⟨by repeat (first | (with_reducible first | exact HB.out | apply zH | apply zF | apply zG | refine zI ?_ GE318.out | refine zI ?_ GE332.out | refine zI ?_ GE333.out | refine zI ?_ GE346.out | refine zI ?_ GE347.out | refine zI ?_ GE366.out | refine zI ?_ GE367.out) | exact HB.out)⟩⟩
          ·replace c108 := yO c108
           subst c108; have H1 : (laws_FnExactSealText.j1 kj13 t350 true t338 t351 t352) = some r := by rw [if_neg (show ¬ (false = true) by decide)] at H; exact H
           clear H; have H := H1; clear H1
           exfalso; revert H; generalize kj13 = q_; intro H; cases q_ with
           | zero => exact absurd H (by simp [laws_FnExactSealText.j1])
           | succ q_ => simp only [laws_FnExactSealText.j1] at H; exact absurd ((yM (show some false = some _ from H)).trans hr_.out) (by decide)
         ·replace c106 := yO c106
          subst c106; have H1 : (laws_FnExactSealText.j1 kj13 t350 true t338 t351 t352) = some r := by rw [if_neg (show ¬ (false = true) by decide)] at H; exact H
          clear H; have H := H1; clear H1
          exfalso; revert H; generalize kj13 = q_; intro H; cases q_ with
          | zero => exact absurd H (by simp [laws_FnExactSealText.j1])
          | succ q_ => simp only [laws_FnExactSealText.j1] at H; exact absurd ((yM (show some false = some _ from H)).trans hr_.out) (by decide)
        case rest =>
         clear HC73
         try clear c1
         try clear c2
         try clear p2
         try clear c3
         try clear c3b0
         try clear c3b1
         try clear c4
         try clear c5
         try clear c6
         try clear c6b0
         try clear c7
         try clear c8
         try clear c9
         try clear c10
         try clear c11
         try clear c12
         try clear c13
         try clear c22
         try clear c23
         try clear c24
         try clear c25
         try clear c26
         try clear c28
         try clear c29
         try clear c35
         try clear c36
         try clear c37
         try clear c38
         try clear c40
         try clear c41
         try clear c42
         try clear c47
         try clear c49
         try clear c50
         try clear c51
         try clear c52
         try clear c53
         try clear c55
         try clear c56
         try clear c57
         try clear c60
         try clear c61
         try clear c63
         try clear c66
         try clear c69
         try clear c69b0
         try clear c70
         try clear c70b0
         try clear c70b1
         try clear c74
         try clear c75
         try clear c76
         try clear c77
         try clear c82
         try clear c83
         try clear c84
         try clear c90
         try clear c91
         try clear c92
         try clear c93
         try clear c94
         try clear c95
         try clear c97
         try clear c98
         try clear c99
         try clear c100
         try clear c101
         try clear c106
         try clear c108
         try clear c109
         try clear c110
         try clear c111
         try clear c112
         try clear c113
         try clear c114
         try clear c116
         try clear c117
         try clear c118
         try clear c119
         try clear c120
         try clear c123
         try clear c124
         try clear c125
         try clear c126
         try clear c128
         try clear c129
         try clear c130
         try clear hcz102_0
         try clear hcz102_1
         try clear hcz102_2
         try clear hcz115_0
         try clear hcz115_1
         try clear hcz121_0
         try clear hcz121_1
         try clear hcz127_0
         try clear hcz127_1
         try clear hcz127_2
         try clear hcz131_0
         try clear hcz131_1
         try clear hcz131_2
         try clear hcz16_0
         try clear hcz16_1
         try clear hcz18_0
         try clear hcz18_1
         try clear hcz25_0
         try clear hcz25_1
         try clear hcz27_0
         try clear hcz27_1
         try clear hcz27_2
         try clear hcz30_0
         try clear hcz30_1
         try clear hcz39_0
         try clear hcz39_1
         try clear hcz43_0
         try clear hcz43_1
         try clear hcz43_2
         try clear hcz54_0
         try clear hcz54_1
         try clear hcz58_0
         try clear hcz58_1
         try clear hcz62_0
         try clear hcz62_1
         try clear hcz62_2
         try clear hcz64_0
         try clear hcz64_1
         try clear hcz64_2
         try clear hcz78_0
         try clear hcz78_1
         try clear hcz78_2
         try clear hcz80_0
         try clear hcz80_1
         try clear hcz80_2
         try clear hcz85_0
         try clear hcz85_1
         try clear hcz8_0
         try clear hcz8_1
         try clear hcz96_0
         try clear hcz96_1
         try clear hfz102_0
         try clear hfz102_1
         try clear hfz102_2
         try clear hfz115_0
         try clear hfz115_1
         try clear hfz121_0
         try clear hfz121_1
         try clear hfz127_0
         try clear hfz127_1
         try clear hfz127_2
         try clear hfz131_0
         try clear hfz131_1
         try clear hfz131_2
         try clear hfz16_0
         try clear hfz16_1
         try clear hfz18_0
         try clear hfz18_1
         try clear hfz25_0
         try clear hfz25_1
         try clear hfz27_0
         try clear hfz27_1
         try clear hfz27_2
         try clear hfz30_0
         try clear hfz30_1
         try clear hfz39_0
         try clear hfz39_1
         try clear hfz43_0
         try clear hfz43_1
         try clear hfz43_2
         try clear hfz54_0
         try clear hfz54_1
         try clear hfz58_0
         try clear hfz58_1
         try clear hfz62_0
         try clear hfz62_1
         try clear hfz62_2
         try clear hfz64_0
         try clear hfz64_1
         try clear hfz64_2
         try clear hfz78_0
         try clear hfz78_1
         try clear hfz78_2
         try clear hfz80_0
         try clear hfz80_1
         try clear hfz80_2
         try clear hfz85_0
         try clear hfz85_1
         try clear hfz8_0
         try clear hfz8_1
         try clear hfz96_0
         try clear hfz96_1
         try clear p2
         obtain ⟨kq, x89_72, rfl, HA, HJ72, HO_334001, HO_334002, HO_348001, HO_348002, HO_368001, HO_368002, BK318, BK332, BK333, BK346, BK347, BK366, BK367, HB⟩ := hcut; have hl348001_72 := (yD HO_348001.out).1; rw [hl348001_72] at HO_348001; (try simp only [hl348001_72]); (try simp only [hl348001_72] at BK318); (try simp only [hl348001_72] at BK332); (try simp only [hl348001_72] at BK333); (try simp only [hl348001_72] at BK346); (try simp only [hl348001_72] at BK347); (try simp only [hl348001_72] at BK366); (try simp only [hl348001_72] at BK367); (try simp only [hl348001_72] at HO_334001); (try simp only [hl348001_72] at HO_334002); (try simp only [hl348001_72] at HO_348002); (try simp only [hl348001_72] at HO_368001); (try simp only [hl348001_72] at HO_368002); have hl348002_72 := (yD HO_348002.out).1; rw [hl348002_72] at HO_348002; (try simp only [hl348002_72]); (try simp only [hl348002_72] at BK318); (try simp only [hl348002_72] at BK332); (try simp only [hl348002_72] at BK333); (try simp only [hl348002_72] at BK346); (try simp only [hl348002_72] at BK347); (try simp only [hl348002_72] at BK366); (try simp only [hl348002_72] at BK367); (try simp only [hl348002_72] at HO_334001); (try simp only [hl348002_72] at HO_334002); (try simp only [hl348002_72] at HO_348001); (try simp only [hl348002_72] at HO_368001); (try simp only [hl348002_72] at HO_368002)
         cases kq with
         | zero => exact absurd HA.out (by simp [laws_FnExactSealText.j1])
         | succ kj72 =>
          have H := HA.out; clear HA; simp only [laws_FnExactSealText.j1] at H
          by_cases c133 : x89_72 = true
          ·subst c133
           have H1 : (some false) = some r := by rw [if_pos rfl] at H; exact H
           clear H; have H := H1; clear H1; exact absurd ((yM H).trans hr_.out) (by decide)
          ·replace c133 := yO c133
           subst c133; have H1 : ((laws_heldSeal.f kj72 t338 t351 t352 1).bind fun t370 => (if t370 < 0 then (some false) else (if t370 = t350 then (some true) else (some false)))) = some r := by rw [if_neg (show ¬ (false = true) by decide)] at H; exact H
           clear H; have H := H1; clear H1; replace H := zAF H; obtain ⟨t370, A1340, H⟩ := H; replace H : (if t370 < 0 then (some false) else (if t370 = t350 then (some true) else (some false))) = some r := H; have A134 := zA A1340; clear A1340
           by_cases c135 : t370 < 0
           ·rw [if_pos c135] at H
            have c135b0 : decide (t370 < 0) = true := zX c135; clear c135; exact absurd ((yM H).trans hr_.out) (by decide)
           ·rw [if_neg c135] at H
            have c135b0 : decide (t370 < 0) = false := decide_eq_false c135; clear c135
            by_cases c136 : t370 = t350
            ·rw [if_pos c136] at H
             have c136b0 : (t370 == t350) = true := beq_iff_eq.mpr c136; have c136b1 : (t370 != t350) = false := bne_eq_false_iff_eq.mpr c136; clear c136; obtain rfl := yM H; have hnb137 := NB347_318.out; have hnc137 := NB318_347.out; have hnb138 := NB347_332.out; have hnc138 := NB332_347.out; have hnb139 := NB347_333.out; have hnc139 := NB333_347.out; have hnb140 := NB347_346.out; have hnc140 := NB346_347.out; have hnb141 := NB347_366.out; have hnc141 := NB366_347.out; have hnb142 := NB347_367.out; have hnc142 := NB367_347.out; have hcz143_0 := yL BK347.out 0 (.int .i64 t338) rfl; have hcz143_1 := yL BK347.out 1 (.slice Ao44 t351.length co44) rfl; have hcz143_2 := yL BK347.out 2 (.slice Ao45 t352.length co45) rfl; have hfz143_0 := zO BK347.out 0; have hfz143_1 := zO BK347.out 1; have hfz143_2 := zO BK347.out 2; go_wp2_with (first | ((with_reducible refine yB (f := 29) rfl ?_); refine goesL_ (some 92) rfl rfl Try.func29 (by kernel_rfl) rfl #[.agg #[.int .i64 t338, .slice Ao44 t351.length co44, .slice Ao45 t352.length co45], .int .i64 1] rfl (by (try simp only [zAA, zAB, zAC]); first | done | rfl | (simp only [zZ, zY]; rfl)) ?_; (with_reducible refine (laws_heldSeal.calls kj72 t338 _ _ t351 _ _ t352 1 t370 _ ?side1 ?side2 ?side3 ?side4 A134.out).mono ?_); (case side1 => repeat (first | exact (yD HO_348001.out).2.2 | (with_reducible first | refine zT ?_ _ | refine zU ?_ _ | refine zV ?_))); (case side2 => exact (yD HO_348001.out).2.1); (case side3 => repeat (first | exact (yD HO_348002.out).2.2 | (with_reducible first | refine zT ?_ _ | refine zU ?_ _ | refine zV ?_))); (case side4 => exact (yD HO_348002.out).2.1); rintro e w144 ⟨rfl, hb⟩; refine ⟨_, rfl, ?_⟩; have n0_ := zA (Kd.R_below (by (with_reducible repeat first | apply zQ | apply zR | apply zS); exact HO_334001.out) hb); have n1_ := zA (Kd.R_below (by (with_reducible repeat first | apply zQ | apply zR | apply zS); exact HO_334002.out) hb); have n2_ := zA (Kd.R_below (by (with_reducible repeat first | apply zQ | apply zR | apply zS); exact HO_348001.out) hb); have n3_ := zA (Kd.R_below (by (with_reducible repeat first | apply zQ | apply zR | apply zS); exact HO_348002.out) hb); have n4_ := zA (Kd.R_below (by (with_reducible repeat first | apply zQ | apply zR | apply zS); exact HO_368001.out) hb); have n5_ := zA (Kd.R_below (by (with_reducible repeat first | apply zQ | apply zR | apply zS); exact HO_368002.out) hb); have n6_ := zA (yE (g := gb318) (o := .cells #[.string a0_0, .int .i64 a0_1] 43 (0, 0)) (by (with_reducible repeat (first | refine zL ?_ _ | refine zN ?_ | refine zM ?_ _)); exact BK318.out) hb); have n7_ := zA (yE (g := gb332) (o := .cells #[.string t322, .int .i64 t323] 45 (0, 0)) (by (with_reducible repeat (first | refine zL ?_ _ | refine zN ?_ | refine zM ?_ _)); exact BK332.out) hb); have n8_ := zA (yE (g := gb333) (o := .cells #[.int .i64 t324, .slice Ao28 t325.length co28, .slice Ao29 t328.length co29] 47 (0, 0)) (by (with_reducible repeat (first | refine zL ?_ _ | refine zN ?_ | refine zM ?_ _)); exact BK333.out) hb); have n9_ := zA (yE (g := gb346) (o := .cells #[.string t336, .int .i64 t337] 45 (0, 0)) (by (with_reducible repeat (first | refine zL ?_ _ | refine zN ?_ | refine zM ?_ _)); exact BK346.out) hb); have n10_ := zA (yE (g := gb347) (o := .cells #[.int .i64 t338, .slice Ao44 t351.length co44, .slice Ao45 t352.length co45] 47 (0, 0)) (by (with_reducible repeat (first | refine zL ?_ _ | refine zN ?_ | refine zM ?_ _)); exact BK347.out) hb); have n11_ := zA (yE (g := gb366) (o := .cells #[.string t356, .int .i64 t357] 45 (0, 0)) (by (with_reducible repeat (first | refine zL ?_ _ | refine zN ?_ | refine zM ?_ _)); exact BK366.out) hb); have n12_ := zA (yE (g := gb367) (o := .cells #[.int .i64 t358, .slice Ao103 t359.length co103, .slice Ao104 t362.length co104] 47 (0, 0)) (by (with_reducible repeat (first | refine zL ?_ _ | refine zN ?_ | refine zM ?_ _)); exact BK367.out) hb); have n13_ := zA (zAD (by repeat (first | (with_reducible first | exact HB.out | apply zH | apply zF | apply zG | refine zI ?_ GE318.out | refine zI ?_ GE332.out | refine zI ?_ GE333.out | refine zI ?_ GE346.out | refine zI ?_ GE347.out | refine zI ?_ GE366.out | refine zI ?_ GE367.out) | exact HB.out)) hb); clear HO_334001; clear HO_334002; clear HO_348001; clear HO_348002; clear HO_368001; clear HO_368002; clear BK318; clear BK332; clear BK333; clear BK346; clear BK347; clear BK366; clear BK367; clear HB; have HO_334001 := n0_; have HO_334002 := n1_; have HO_348001 := n2_; have HO_348002 := n3_; have HO_368001 := n4_; have HO_368002 := n5_; have BK318 := n6_; have BK332 := n7_; have BK333 := n8_; have BK346 := n9_; have BK347 := n10_; have BK366 := n11_; have BK367 := n12_; have HB := n13_; clear n0_ n1_ n2_ n3_ n4_ n5_ n6_ n7_ n8_ n9_ n10_ n11_ n12_ n13_; (try clear hb))); go_ret; exact ⟨by first | rfl | (simp <;> rfl) | (simp [*] <;> rfl), by repeat (first | (with_reducible first | exact HB.out | apply zH | apply zF | apply zG | refine zI ?_ GE318.out | refine zI ?_ GE332.out | refine zI ?_ GE333.out | refine zI ?_ GE346.out | refine zI ?_ GE347.out | refine zI ?_ GE366.out | refine zI ?_ GE367.out) | exact HB.out)⟩
            ·rw [if_neg c136] at H
             have c136b0 : (t370 == t350) = false := beq_eq_false_iff_ne.mpr c136; have c136b1 : (t370 != t350) = true := bne_iff_ne.mpr c136; exact absurd ((yM H).trans hr_.out) (by decide)
       ·rw [if_neg c70] at H
        have c70b0 : (t353 == t350) = false := beq_eq_false_iff_ne.mpr c70; have c70b1 : (t353 != t350) = true := bne_iff_ne.mpr c70; exact absurd ((yM H).trans hr_.out) (by decide)
end Go.Proofs.Ytmfipefpmjcddaa.PA
end
section
namespace Go.Proofs.Ytmfipefpmjcddaa.PB
open Go.RowKit Go.Proofs.YtmfipefpmjcddaaW.PrintWords Go.Proofs.YtmfipefpmjcddaaW.PrintLast Go.Proofs.YtmfipefpmjcddaaW.PrintMore
set_option linter.unusedVariables false
theorem ev_pos {α : Type} {c : Prop} [Decidable c] {f g : Nat → Option α} {r : α} (hc : c) (h : Ev f r) : Ev (fun k => if c then f k else g k) r := by
 simp only [if_pos hc]; exact h
theorem ev_neg {α : Type} {c : Prop} [Decidable c] {f g : Nat → Option α} {r : α} (hc : ¬ c) (h : Ev g r) : Ev (fun k => if c then f k else g k) r := by
 simp only [if_neg hc]; exact h
theorem ev_bind {α β : Type} {g : Nat → Option α} {f : Nat → α → Option β} {a : α} {r : β} (h : Ev g a) (k : Ev (fun n => f n a) r) : Ev (fun n => (g n).bind (f n)) r := Ev.bind h k
theorem ev_const {α β : Type} {o : Option α} {f : Nat → α → Option β} {a : α} {r : β} (h : o = some a) (k : Ev (fun n => f n a) r) : Ev (fun n => o.bind (f n)) r := by
 subst h; exact k
theorem w64 {x : Int} (h0 : -9223372036854775808 ≤ x) (h1 : x ≤ 9223372036854775807) : wrap64 x = x := by
 unfold wrap64; omega
theorem size_toList (s : ByteArray) : s.toList.length = s.size := by rw [ByteArray.toList_eq]; exact data_length s
theorem bt_get (s : ByteArray) (i : Nat) (h : i < s.size) : bt s (i : Int) = ((s.toList.getD i 0).toNat : Int) := by
 rw [ByteArray.toList_eq]
 unfold bt
 rw [dif_pos (by simpa using h)]
 have h' : i < s.data.toList.length := by rw [data_length]; exact h
 simp [List.getD_eq_getElem?_getD, List.getElem?_eq_getElem h']
 rfl
end Go.Proofs.Ytmfipefpmjcddaa.PB
end
section
namespace Go.Proofs.Ytmfipefpmjcddaa.PD
open Go.RowKit Go.Proofs.YtmfipefpmjcddaaW.PrintWords Go.Proofs.YtmfipefpmjcddaaW.PrintLast Go.Proofs.YtmfipefpmjcddaaW.PrintMore Go.Proofs.Ytmfipefpmjcddaa.PB Go.Proofs.Ytmfipefpmjcddaa.PA
set_option linter.unusedVariables false
def dstep (p : Int × Int) (c : UInt8) : Int × Int := ((p.1 + (c.toNat : Int)) % 65521, (p.2 + (p.1 + (c.toNat : Int)) % 65521) % 65521)
def dfold (p : Int × Int) (l : List UInt8) : Int × Int := l.foldl dstep p
def InP (p : Int × Int) : Prop := 0 ≤ p.1 ∧ p.1 < 65521 ∧ 0 ≤ p.2 ∧ p.2 < 65521
theorem dstep_in {p : Int × Int} {c : UInt8} : InP (dstep p c) := by
 unfold InP dstep; refine ⟨?_, ?_, ?_, ?_⟩ <;> simp only <;> omega
theorem dfold_in {p : Int × Int} (h : InP p) (l : List UInt8) : InP (dfold p l) := by
 induction l generalizing p with
 | nil => exact h
 | cons c l ih => exact ih dstep_in
def four (p : Int × Int) : ByteArray := strOfNums [p.2 / 256 % 256, p.2 % 256, p.1 / 256 % 256, p.1 % 256]
def dig (kind : Int) (s : ByteArray) : ByteArray := four (dfold (kind + 1, kind + 1) s.toList)
theorem four_size (p : Int × Int) : (four p).size = 4 := by unfold four; rw [strOfNums_size]; rfl
theorem dig_size (kind : Int) (s : ByteArray) : (dig kind s).size = 4 := four_size _
theorem drop_at (l : List UInt8) (i : Nat) (h : i < l.length) : l.drop i = l.getD i 0 :: l.drop (i + 1) := by
 rw [List.drop_eq_getElem_cons h]; simp [List.getD_eq_getElem?_getD, List.getElem?_eq_getElem h]
theorem step_arith {A B : Int} {c : Nat} (hA : 0 ≤ A ∧ A < 65521 ∧ 0 ≤ B ∧ B < 65521) (hc : c < 256) :
  Int.tmod (wrap64 (A + wrap64 (c : Int))) 65521 = (A + (c : Int)) % 65521 ∧ Int.tmod (wrap64 (B + (A + (c : Int)) % 65521)) 65521 = (B + (A + (c : Int)) % 65521) % 65521 := by
 have h1 : wrap64 (c : Int) = c := w64 (by omega) (by omega)
 have h2 : wrap64 (A + c) = A + c := w64 (by omega) (by omega)
 have h3 : wrap64 (B + (A + (c : Int)) % 65521) = B + (A + (c : Int)) % 65521 := w64 (by omega) (by omega)
 rw [h1, h2, h3, Int.tmod_eq_emod_of_nonneg (by omega), Int.tmod_eq_emod_of_nonneg (by omega)]
 exact ⟨rfl, rfl⟩
theorem feed_spec (s : ByteArray) (hs : s.size ≤ 1000000000000) (L : Int) (hL : 0 ≤ L ∧ L ≤ 1000000000000) : ∀ (d i : Nat) (A B : Int), i + d = s.size → InP (A, B) →
  Ev (fun k => spec_l1Feed.l0 k s (i : Int) A B L) ((dfold (A, B) (s.toList.drop i)).1, (dfold (A, B) (s.toList.drop i)).2, L + s.size) := by
 intro d
 induction d with
 | zero =>
  intro i A B hi hp
  refine Ev.step (f := fun _ => some (A, B, wrap64 (L + (s.size : Int)))) (fun k => ?_) ?_
  ·simp only [spec_l1Feed.l0]; rw [if_neg (by omega)]
  ·rw [List.drop_eq_nil_of_le (by rw [size_toList]; omega)]
   rw [w64 (by omega) (by omega)]
   exact Ev.now _
 | succ d ih =>
  intro i A B hi hp
  have hlt : i < s.size := by omega
  have hb := bt_get s i hlt
  have hc : (s.toList.getD i 0).toNat < 256 := UInt8.toNat_lt _
  have ha := step_arith (A := A) (B := B) hp hc
  refine Ev.step (f := fun k => spec_l1Feed.l0 k s ((i + 1 : Nat) : Int) (dstep (A, B) (s.toList.getD i 0)).1 (dstep (A, B) (s.toList.getD i 0)).2 L) (fun k => ?_) ?_
  ·simp only [spec_l1Feed.l0]; rw [if_pos (by omega), if_pos (by omega), hb, ha.1, ha.2, w64 (x := (i : Int) + 1) (by omega) (by omega)]
   simp only [dstep]
   congr 1
  ·rw [drop_at _ _ (by rw [size_toList]; exact hlt)]
   exact ih (i + 1) _ _ (by omega) dstep_in
theorem feed_impl (s : ByteArray) (hs : s.size ≤ 1000000000000) (L : Int) (hL : 0 ≤ L ∧ L ≤ 1000000000000) : ∀ (d i : Nat) (A B : Int), i + d = s.size → InP (A, B) →
  Ev (fun k => impl_Mix_feed.l0 k s (s.size : Int) (i : Int) A B L) ((dfold (A, B) (s.toList.drop i)).1, (dfold (A, B) (s.toList.drop i)).2, L + s.size) := by
 intro d
 induction d with
 | zero =>
  intro i A B hi hp
  refine Ev.step (f := fun _ => some (A, B, wrap64 (L + (s.size : Int)))) (fun k => ?_) ?_
  ·simp only [impl_Mix_feed.l0]; rw [if_neg (by omega)]
  ·rw [List.drop_eq_nil_of_le (by rw [size_toList]; omega)]
   rw [w64 (by omega) (by omega)]
   exact Ev.now _
 | succ d ih =>
  intro i A B hi hp
  have hlt : i < s.size := by omega
  have hb := bt_get s i hlt
  have hc : (s.toList.getD i 0).toNat < 256 := UInt8.toNat_lt _
  have ha := step_arith (A := A) (B := B) hp hc
  refine Ev.step (f := fun k => impl_Mix_feed.l0 k s (s.size : Int) ((i + 1 : Nat) : Int) (dstep (A, B) (s.toList.getD i 0)).1 (dstep (A, B) (s.toList.getD i 0)).2 L) (fun k => ?_) ?_
  ·simp only [impl_Mix_feed.l0]; rw [if_pos (by omega), if_pos (by omega), if_pos (by omega), hb, ha.1, ha.2, w64 (x := (i : Int) + 1) (by omega) (by omega)]
   simp only [dstep]
   congr 1
  ·rw [drop_at _ _ (by rw [size_toList]; exact hlt)]
   exact ih (i + 1) _ _ (by omega) dstep_in
def Kd_ (c : Int) : Prop := 97 ≤ c ∧ c ≤ 122
theorem digS (kind : Int) (hk : Kd_ kind) (s : ByteArray) (hs : s.size ≤ 1000000000000) : Ev (fun k => spec_l1Digest.f k kind s) (dig kind s) := by
 obtain ⟨h0, h1⟩ := hk
 have e1 : spec_NewMix.f kind = some (kind + 1, kind + 1, 0, true) := by
  unfold spec_NewMix.f spec_l1Kind.f
  rw [if_pos (by omega)]
  simp only [Option.bind_some, decide_eq_true h1, if_true]
  rw [w64 (x := kind) (by omega) (by omega), w64 (by omega) (by omega), Int.add_comm]
 have hp : InP (kind + 1, kind + 1) := by unfold InP; refine ⟨?_, ?_, ?_, ?_⟩ <;> simp only <;> omega
 obtain ⟨K, h⟩ := feed_spec s hs 0 (by omega) s.size 0 (kind + 1) (kind + 1) (by omega) hp
 refine ⟨K, fun k hk => ?_⟩
 have h' := h k hk
 dsimp only at h'
 rw [show ((0 : Nat) : Int) = 0 from rfl] at h'
 unfold spec_l1Digest.f spec_l1Feed.f spec_l1End.f
 simp only [e1, Option.bind_some]
 rw [h']
 simp only [Option.bind_some, List.drop_zero]
 rfl
theorem digI (kind : Int) (hk : Kd_ kind) (s : ByteArray) (hs : s.size ≤ 1000000000000) : Ev (fun k => impl_digest.f k kind s) (dig kind s) := by
 obtain ⟨h0, h1⟩ := hk
 have e1 : impl_newMix.f kind = some (kind + 1, kind + 1, 0) := by
  unfold impl_newMix.f
  rw [w64 (x := kind) (by omega) (by omega), w64 (by omega) (by omega)]
 have hp : InP (kind + 1, kind + 1) := by unfold InP; refine ⟨?_, ?_, ?_, ?_⟩ <;> simp only <;> omega
 obtain ⟨K, h⟩ := feed_impl s hs 0 (by omega) s.size 0 (kind + 1) (kind + 1) (by omega) hp
 refine ⟨K, fun k hk => ?_⟩
 have h' := h k hk
 dsimp only at h'
 rw [show ((0 : Nat) : Int) = 0 from rfl] at h'
 have hq := dfold_in hp s.toList
 unfold impl_digest.f impl_Mix_feed.f impl_Mix_end.f
 simp only [e1, Option.bind_some]
 rw [h']
 simp only [Option.bind_some, List.drop_zero]
 unfold dig four
 generalize dfold (kind + 1, kind + 1) s.toList = p at hq ⊢
 obtain ⟨q0, q1, q2, q3⟩ := hq
 rw [Int.tdiv_eq_ediv_of_nonneg q2, Int.tdiv_eq_ediv_of_nonneg q0, Int.tmod_eq_emod_of_nonneg q2, Int.tmod_eq_emod_of_nonneg q0, w64 (x := p.2 / 256) (by omega) (by omega), w64 (x := p.1 / 256) (by omega) (by omega)]
 rw [Int.emod_emod_of_dvd p.2 (Int.dvd_refl _), Int.emod_emod_of_dvd p.1 (Int.dvd_refl _)]
def one (n : Int) : ByteArray := strOfNums [n % 256]
theorem one_size (n : Int) : (one n).size = 1 := by unfold one; rw [strOfNums_size]; rfl
theorem oneI (n : Int) : impl_oneByte.f n = some (one n) := rfl
end Go.Proofs.Ytmfipefpmjcddaa.PD
end
section
namespace Go.Proofs.Ytmfipefpmjcddaa.PK
open Go.RowKit Go.Proofs.YtmfipefpmjcddaaW.PrintWords Go.Proofs.YtmfipefpmjcddaaW.PrintLast Go.Proofs.YtmfipefpmjcddaaW.PrintMore Go.Proofs.Ytmfipefpmjcddaa.PB Go.Proofs.Ytmfipefpmjcddaa.PD Go.Proofs.Ytmfipefpmjcddaa.PA
set_option linter.unusedVariables false
def chainM (s : ByteArray) (i : Nat) : Nat → ByteArray
 | 0 => s
 | n + 1 => chainM (dig 99 (one (i : Int) ++ s)) (i + 1) n
theorem chainM_size (s : ByteArray) (h : s.size = 4) (n : Nat) : ∀ i, (chainM s i n).size = 4 := by
 induction n generalizing s with
 | zero => intro i; exact h
 | succ n ih => intro i; exact ih _ (dig_size _ _) _
theorem kc : Kd_ 99 := ⟨by decide, by decide⟩
theorem app_size (a b : ByteArray) : (a ++ b).size = a.size + b.size := ByteArray.size_append
theorem chainS0 (a b : Nat) (ha : a + b ≤ 1000) : ∀ (n i : Nat) (s : ByteArray), s.size ≤ 1000000 → i + n = a + b → Ev (fun k => spec_l2Chain.l0 k s (a : Int) (b : Int) (i : Int)) (chainM s i n) := by
 intro n
 induction n with
 | zero =>
  intro i s hs hi
  refine Ev.step (f := fun _ => some s) (fun k => ?_) (Ev.now _)
  simp only [spec_l2Chain.l0]
  rw [w64 (by omega) (by omega), if_neg (by omega)]
 | succ n ih =>
  intro i s hs hi
  refine Ev.step (f := fun k => (spec_l1Digest.f k 99 (one (i : Int) ++ s)).bind fun t => spec_l2Chain.l0 k t (a : Int) (b : Int) ((i + 1 : Nat) : Int)) (fun k => ?_) ?_
  ·simp only [spec_l2Chain.l0]
   rw [w64 (x := (a : Int) + b) (by omega) (by omega), if_pos (by omega)]
   simp only [Option.bind_some]
   rw [if_pos (by rw [strOfNums_size]; simp only [List.length_cons, List.length_nil]; omega), w64 (x := (i : Int) + 1) (by omega) (by omega)]
   rfl
  ·exact ev_bind (digS 99 kc _ (by rw [app_size, one_size]; omega)) (ih (i + 1) _ (by rw [dig_size]; omega) (by omega))
theorem chainS (s : ByteArray) (a b : Nat) (ha : a + b ≤ 1000) (hs : s.size ≤ 1000000) : Ev (fun k => spec_l2Chain.f k s (a : Int) (b : Int)) (chainM s a b) :=
 chainS0 a b ha b a s hs rfl
theorem chainI0 (a b : Nat) (ha : a + b ≤ 1000) : ∀ (n i : Nat) (s : ByteArray), s.size ≤ 1000000 → i + n = a + b → Ev (fun k => impl_chain.l0 k s (a : Int) (b : Int) (i : Int)) (chainM s i n) := by
 intro n
 induction n with
 | zero =>
  intro i s hs hi
  refine Ev.step (f := fun _ => some s) (fun k => ?_) (Ev.now _)
  simp only [impl_chain.l0]
  rw [w64 (by omega) (by omega), if_neg (by omega)]
 | succ n ih =>
  intro i s hs hi
  refine Ev.step (f := fun k => (impl_digest.f k 99 (one (i : Int) ++ s)).bind fun t => impl_chain.l0 k t (a : Int) (b : Int) ((i + 1 : Nat) : Int)) (fun k => ?_) ?_
  ·simp only [impl_chain.l0]
   rw [w64 (x := (a : Int) + b) (by omega) (by omega), if_pos (by omega), oneI]
   simp only [Option.bind_some]
   rw [if_pos (by rw [one_size]; omega), w64 (x := (i : Int) + 1) (by omega) (by omega)]
   rfl
  ·exact ev_bind (digI 99 kc _ (by rw [app_size, one_size]; omega)) (ih (i + 1) _ (by rw [dig_size]; omega) (by omega))
theorem chainI (s : ByteArray) (a b : Nat) (ha : a + b ≤ 1000) (hs : s.size ≤ 1000000) : Ev (fun k => impl_chain.f k s (a : Int) (b : Int)) (chainM s a b) :=
 chainI0 a b ha b a s hs rfl
def nibs : List UInt8 → List Int
 | [] => []
 | c :: l => (c.toNat : Int) / 16 :: (c.toNat : Int) % 16 :: nibs l
def sm : List Int → Int
 | [] => 0
 | n :: l => (15 - n) + sm l
theorem nibs_length (l : List UInt8) : (nibs l).length = 2 * l.length := by
 induction l with
 | nil => rfl
 | cons c l ih => simp only [nibs, List.length_cons, ih]; omega
theorem nibs_in (l : List UInt8) : ∀ n ∈ nibs l, 0 ≤ n ∧ n ≤ 15 := by
 induction l with
 | nil => intro n h; cases h
 | cons c l ih =>
  have hc : c.toNat < 256 := UInt8.toNat_lt _
  intro n h
  simp only [nibs, List.mem_cons] at h
  rcases h with rfl | rfl | h
  ·omega
  ·omega
  ·exact ih n h
theorem sm_nibs (l : List UInt8) : 0 ≤ sm (nibs l) ∧ sm (nibs l) ≤ 30 * l.length := by
 induction l with
 | nil => exact ⟨by decide, by decide⟩
 | cons c l ih =>
  have hc : c.toNat < 256 := UInt8.toNat_lt _
  simp only [nibs, sm, List.length_cons]
  omega
def checksM (S : Int) : List Int := [S / 256 % 16, S / 16 % 16, S % 16]
def digitsM (s : ByteArray) : List Int := nibs (dig 109 s).toList ++ checksM (sm (nibs (dig 109 s).toList))
theorem digitsM_length (s : ByteArray) : (digitsM s).length = 11 := by
 unfold digitsM
 rw [List.length_append, nibs_length, size_toList, dig_size]
 rfl
theorem digitsM_in (s : ByteArray) : ∀ n ∈ digitsM s, 0 ≤ n ∧ n ≤ 15 := by
 intro n h
 unfold digitsM at h
 rcases List.mem_append.mp h with h | h
 ·exact nibs_in _ n h
 ·unfold checksM at h
  simp only [List.mem_cons, List.not_mem_nil, or_false] at h
  rcases h with rfl | rfl | rfl <;> omega
theorem rd_at (l : List Int) (i : Nat) (h : i < l.length) : rd l (i : Int) = l[i] := by
 simp [rd, List.getD_eq_getElem?_getD, List.getElem?_eq_getElem h]
theorem rd_digits (s : ByteArray) (i : Nat) (h : i < 11) : 0 ≤ rd (digitsM s) (i : Int) ∧ rd (digitsM s) (i : Int) ≤ 15 := by
 have hl : i < (digitsM s).length := by rw [digitsM_length]; exact h
 rw [rd_at _ _ hl]
 exact digitsM_in s _ (List.getElem_mem hl)
theorem drop_cons {α : Type} (l : List α) (i : Nat) (h : i < l.length) : l.drop i = l[i] :: l.drop (i + 1) := List.drop_eq_getElem_cons h
theorem sumS (out : List Int) (hin : ∀ n ∈ out, 0 ≤ n ∧ n ≤ 15) (hl : out.length ≤ 100) : ∀ (d i : Nat) (S : Int), i + d = out.length → 0 ≤ S → S ≤ 15 * i → Ev (fun k => spec_l2Digits.l1 k out S out (out.length : Int) (i : Int)) (out ++ checksM (S + sm (out.drop i))) := by
 intro d
 induction d with
 | zero =>
  intro i S hi h0 h1
  refine Ev.step (f := fun _ => some (out ++ checksM S)) (fun k => ?_) ?_
  ·simp only [spec_l2Digits.l1]
   rw [if_neg (by omega)]
   simp only [Option.bind_some]
   rw [if_pos (by simp only [List.length_cons, List.length_nil]; omega)]
   have hb : ∀ x : Int, 0 ≤ x → x < 4294967296 → Go.bits .and .i64 x 15 = x % 16 := fun x hx0 hx1 => bits_mask .i64 63 (by decide) (fun n hn0 hn1 => by rw [i64_w]; exact w64 (by omega) (by omega)) 4 (by decide) x hx0 (by omega)
   rw [hb _ (by omega) (by omega), hb _ (by omega) (by omega), hb _ (by omega) (by omega)]
   rfl
  ·rw [List.drop_eq_nil_of_le (by omega)]
   simp only [sm, Int.add_zero]
   exact Ev.now _
 | succ d ih =>
  intro i S hi h0 h1
  have hlt : i < out.length := by omega
  have hr := rd_at out i hlt
  have hb := hin _ (List.getElem_mem hlt)
  refine Ev.step (f := fun k => spec_l2Digits.l1 k out (S + (15 - out[i])) out (out.length : Int) ((i + 1 : Nat) : Int)) (fun k => ?_) ?_
  ·simp only [spec_l2Digits.l1]
   rw [if_pos (by omega), if_pos (by omega), if_pos (by omega), hr, w64 (x := 15 - out[i]) (by omega) (by omega), w64 (x := S + (15 - out[i])) (by omega) (by omega), w64 (x := (i : Int) + 1) (by omega) (by omega)]
   rfl
  ·have := ih (i + 1) (S + (15 - out[i])) (by omega) (by omega) (by omega)
   rw [drop_cons out i hlt]
   simp only [sm]
   rw [← Int.add_assoc]
   exact this
theorem nibsS (t : ByteArray) (ht : t.size = 4) : ∀ (d i : Nat) (out : List Int), i + d = t.size → out = nibs (t.toList.take i) → Ev (fun k => spec_l2Digits.l0 k out t 0 (i : Int)) (nibs t.toList ++ checksM (sm (nibs t.toList))) := by
 have hlen : t.toList.length = 4 := by rw [size_toList]; exact ht
 intro d
 induction d with
 | zero =>
  intro i out hi ho
  have ho' : out = nibs t.toList := by rw [ho, List.take_of_length_le (by omega)]
  subst ho'
  refine Ev.step (f := fun k => spec_l2Digits.l1 k (nibs t.toList) 0 (nibs t.toList) ((nibs t.toList).length : Int) ((0 : Nat) : Int)) (fun k => ?_) ?_
  ·simp only [spec_l2Digits.l0]
   rw [if_neg (by omega)]
   rfl
  ·have := sumS (nibs t.toList) (nibs_in _) (by rw [nibs_length]; omega) (nibs t.toList).length 0 0 (by omega) (by omega) (by omega)
   simpa using this
 | succ d ih =>
  intro i out hi ho
  have hlt : i < t.size := by omega
  have hb := bt_get t i hlt
  have hlt' : i < t.toList.length := by omega
  have hg : t.toList.getD i 0 = t.toList[i] := by simp [List.getD_eq_getElem?_getD, List.getElem?_eq_getElem hlt']
  rw [hg] at hb
  have hc : (t.toList[i]).toNat < 256 := UInt8.toNat_lt _
  have hol : out.length = 2 * i := by rw [ho, nibs_length, List.length_take]; omega
  refine Ev.step (f := fun k => spec_l2Digits.l0 k (out ++ [((t.toList[i]).toNat : Int) / 16, ((t.toList[i]).toNat : Int) % 16]) t 0 ((i + 1 : Nat) : Int)) (fun k => ?_) ?_
  ·simp only [spec_l2Digits.l0]
   rw [if_pos (by omega), if_pos (by omega), hb, u8_and15 (x := ((t.toList[i]).toNat : Int)) (by omega) (by omega), w64 (x := ((t.toList[i]).toNat : Int) / 16) (by omega) (by omega), w64 (x := ((t.toList[i]).toNat : Int) % 16) (by omega) (by omega), w64 (x := (i : Int) + 1) (by omega) (by omega)]
   simp only [Option.bind_some]
   rw [if_pos (by simp only [List.length_cons, List.length_nil]; omega)]
   rfl
  ·refine ih (i + 1) _ (by omega) ?_
   rw [ho, List.take_succ_eq_append_getElem hlt']
   generalize List.take i t.toList = l
   induction l with
   | nil => rfl
   | cons c l ih2 => simp only [nibs, List.cons_append, ih2]
theorem kmm : Kd_ 109 := ⟨by decide, by decide⟩
theorem digitsS (s : ByteArray) (hs : s.size ≤ 1000000) : Ev (fun k => spec_l2Digits.f k s) (digitsM s) := by
 refine ev_bind (f := fun k t => spec_l2Digits.l0 k [] t 0 0) (digS 109 kmm s (by omega)) ?_
 exact nibsS (dig 109 s) (dig_size _ _) (dig 109 s).size 0 [] (by omega) rfl
theorem rd_bytes (t : ByteArray) (i : Nat) (h : i < t.toList.length) : rd (bytesOf t) (i : Int) = ((t.toList[i]).toNat : Int) := by
 rw [rd_bytesOf, bt_get t i (by rw [size_toList] at h; exact h)]
 simp [List.getD_eq_getElem?_getD, List.getElem?_eq_getElem h]
theorem bytesOf_len (t : ByteArray) : (bytesOf t).length = t.toList.length := by rw [bytesOf_length, size_toList]
theorem nibs_app (l : List UInt8) (c : UInt8) : nibs (l ++ [c]) = nibs l ++ [(c.toNat : Int) / 16, (c.toNat : Int) % 16] := by
 induction l with
 | nil => rfl
 | cons d l ih => simp only [nibs, List.cons_append, ih]
theorem sm_app (a b : List Int) : sm (a ++ b) = sm a + sm b := by
 induction a with
 | nil => simp [sm]
 | cons n a ih => simp only [sm, List.cons_append, ih]; omega
theorem nibsI (t : ByteArray) (ht : t.size = 4) : ∀ (d i : Nat) (out : List Int) (S : Int), i + d = t.toList.length → out = nibs (t.toList.take i) → S = sm out → Ev (fun k => impl_digits.l0 k out S (bytesOf t) ((bytesOf t).length : Int) (i : Int)) (nibs t.toList ++ checksM (sm (nibs t.toList))) := by
 have hlen : t.toList.length = 4 := by rw [size_toList]; exact ht
 intro d
 induction d with
 | zero =>
  intro i out S hi ho hS
  have ho' : out = nibs t.toList := by rw [ho, List.take_of_length_le (by omega)]
  subst ho'
  have hb := sm_nibs t.toList
  rw [hlen] at hb
  refine Ev.step (f := fun k => some (nibs t.toList ++ checksM (sm (nibs t.toList)))) (fun k => ?_) (Ev.now _)
  simp only [impl_digits.l0]
  rw [if_neg (by rw [bytesOf_len]; omega)]
  simp only [Option.bind_some]
  rw [if_pos (by rw [nibs_length]; simp only [List.length_cons, List.length_nil]; omega)]
  rw [hS, Int.tdiv_eq_ediv_of_nonneg hb.1, Int.tdiv_eq_ediv_of_nonneg hb.1, w64 (x := sm (nibs t.toList) / 256) (by omega) (by omega), w64 (x := sm (nibs t.toList) / 16) (by omega) (by omega), Int.tmod_eq_emod_of_nonneg hb.1, Int.tmod_eq_emod_of_nonneg (by omega)]
  unfold checksM
  rw [show sm (nibs t.toList) / 256 % 16 = sm (nibs t.toList) / 256 from by omega]
 | succ d ih =>
  intro i out S hi ho hS
  have hlt' : i < t.toList.length := by omega
  have hb := rd_bytes t i hlt'
  have hc : (t.toList[i]).toNat < 256 := UInt8.toNat_lt _
  have hol : out.length = 2 * i := by rw [ho, nibs_length, List.length_take]; omega
  have hSb : 0 ≤ S ∧ S ≤ 30 * i := by
   have := sm_nibs (t.toList.take i)
   rw [← ho, ← hS, List.length_take] at this
   omega
  refine Ev.step (f := fun k => impl_digits.l0 k (out ++ [((t.toList[i]).toNat : Int) / 16, ((t.toList[i]).toNat : Int) % 16]) (S + (30 - ((t.toList[i]).toNat : Int) / 16 - ((t.toList[i]).toNat : Int) % 16)) (bytesOf t) ((bytesOf t).length : Int) ((i + 1 : Nat) : Int)) (fun k => ?_) ?_
  ·simp only [impl_digits.l0]
   have hbl := bytesOf_len t
   rw [if_pos (by omega), if_pos (by omega), if_pos (by omega), hb, Int.tdiv_eq_ediv_of_nonneg (by omega), Int.tmod_eq_emod_of_nonneg (by omega), w64 (x := ((t.toList[i]).toNat : Int) % 16) (by omega) (by omega), w64 (x := (i : Int) + 1) (by omega) (by omega)]
   rw [show ((t.toList[i]).toNat : Int) / 16 % 256 = ((t.toList[i]).toNat : Int) / 16 from by omega]
   rw [w64 (x := 30 - ((t.toList[i]).toNat : Int) / 16 - ((t.toList[i]).toNat : Int) % 16) (by omega) (by omega), w64 (x := S + (30 - ((t.toList[i]).toNat : Int) / 16 - ((t.toList[i]).toNat : Int) % 16)) (by omega) (by omega)]
   simp only [Option.bind_some]
   rw [if_pos (by simp only [List.length_cons, List.length_nil]; omega)]
   rfl
  ·refine ih (i + 1) _ _ (by omega) ?_ ?_
   ·rw [ho, List.take_succ_eq_append_getElem hlt', nibs_app]
   ·rw [hS, sm_app]; simp only [sm]; omega
theorem digitsI (s : ByteArray) (hs : s.size ≤ 1000000) : Ev (fun k => impl_digits.f k s) (digitsM s) := by
 refine ev_bind (f := fun k t178 => if t178.size ≤ 9223372036854775807 then ((some (bytesOf t178 : List Int)).bind fun y179 => (impl_digits.l0 k ([] : List Int) 0 y179 (y179.length : Int) 0)) else (none)) (digI 109 kmm s (by omega)) ?_
 refine ev_pos (by rw [dig_size]; omega) ?_
 exact nibsI (dig 109 s) (dig_size _ _) (dig 109 s).toList.length 0 [] 0 (by omega) rfl rfl
end Go.Proofs.Ytmfipefpmjcddaa.PK
end
section
namespace Go.Proofs.Ytmfipefpmjcddaa.PL
open Go.RowKit Go.Proofs.YtmfipefpmjcddaaW.PrintWords Go.Proofs.YtmfipefpmjcddaaW.PrintLast Go.Proofs.YtmfipefpmjcddaaW.PrintMore Go.Proofs.Ytmfipefpmjcddaa.PB Go.Proofs.Ytmfipefpmjcddaa.PA
set_option linter.unusedVariables false
theorem rdOf_at {α : Type} (d : α) (l : List α) (i : Nat) (h : i < l.length) : rdOf d l (i : Int) = l[i] := by
 simp [rdOf, List.getD_eq_getElem?_getD, List.getElem?_eq_getElem h]
theorem eqS_yes (l : List ByteArray) (hl : l.length ≤ 2000000) : Ev (fun k => laws_eqStringS.f k l l) true := by
 have key : ∀ (d i : Nat), i + d = l.length → Ev (fun k => laws_eqStringS.l0 k l l (i : Int)) true := by
  intro d
  induction d with
  | zero =>
   intro i hi
   refine Ev.step (f := fun _ => some true) (fun k => ?_) (Ev.now _)
   simp only [laws_eqStringS.l0]
   rw [if_neg (by omega)]
  | succ d ih =>
   intro i hi
   refine Ev.step (f := fun k => laws_eqStringS.l0 k l l ((i + 1 : Nat) : Int)) (fun k => ?_) (ih (i + 1) (by omega))
   simp only [laws_eqStringS.l0]
   rw [if_pos (by omega), if_pos (by omega), if_pos (by omega), if_pos trivial, w64 (x := (i : Int) + 1) (by omega) (by omega)]
   rfl
 refine Ev.congr (f := fun k => laws_eqStringS.l0 k l l ((0 : Nat) : Int)) (fun k => ?_) (key l.length 0 (by omega))
 simp only [laws_eqStringS.f]
 rw [if_pos trivial]
 rfl
theorem mark_go : ∀ (m n : Nat) (out : ByteArray), n < 10 ^ m → out.size + m ≤ 1000 → n ≤ 1000000000000000000 → ∃ t, Ev (fun k => laws_markText.l0 k (n : Int) out) t := by
 intro m
 induction m with
 | zero =>
  intro n out hn ho _
  have : n = 0 := by simpa using hn
  subst this
  refine ⟨(⟨#[109]⟩ : ByteArray) ++ out, Ev.step (f := fun _ => some ((⟨#[109]⟩ : ByteArray) ++ out)) (fun k => ?_) (Ev.now _)⟩
  simp only [laws_markText.l0]
  rw [if_neg (by omega), if_pos (by omega)]
 | succ m ih =>
  intro n out hn ho hb
  by_cases h0 : n = 0
  ·subst h0
   refine ⟨(⟨#[109]⟩ : ByteArray) ++ out, Ev.step (f := fun _ => some ((⟨#[109]⟩ : ByteArray) ++ out)) (fun k => ?_) (Ev.now _)⟩
   simp only [laws_markText.l0]
   rw [if_neg (by omega), if_pos (by omega)]
  ·have hs : ∀ x : Int, (strOfNums [x]).size = 1 := fun x => by rw [strOfNums_size]; rfl
   obtain ⟨t, ht⟩ := ih (n / 10) (strOfNums [(wrap64 (48 + (Int.tmod (n : Int) 10))) % 256] ++ out) (by rw [Nat.pow_succ] at hn; omega) (by rw [ByteArray.size_append, hs]; omega) (by omega)
   refine ⟨t, Ev.step (f := fun k => laws_markText.l0 k ((n / 10 : Nat) : Int) (strOfNums [(wrap64 (48 + (Int.tmod (n : Int) 10))) % 256] ++ out)) (fun k => ?_) ht⟩
   simp only [laws_markText.l0]
   rw [if_pos (by omega)]
   simp only [Option.bind_some]
   rw [if_pos (by rw [hs]; omega), Int.tdiv_eq_ediv_of_nonneg (by omega), w64 (x := (n : Int) / 10) (by omega) (by omega)]
   rfl
theorem mark_any (n : Nat) (hn : n ≤ 1000000000000000000) : ∃ t, Ev (fun k => laws_markText.f k (n : Int)) t := by
 by_cases h0 : n = 0
 ·subst h0
  exact ⟨_, Ev.congr (f := fun _ => some (⟨#[109, 48]⟩ : ByteArray)) (fun k => by simp [laws_markText.f]) (Ev.now _)⟩
 ·obtain ⟨t, ht⟩ := mark_go 19 n ⟨#[]⟩ (by omega) (by simp [ByteArray.size]) hn
  exact ⟨t, Ev.congr (fun k => by simp only [laws_markText.f]; rw [if_neg (by omega)]) ht⟩
noncomputable def mk_ (n : Nat) : ByteArray := if h : n ≤ 1000000000000000000 then Classical.choose (mark_any n h) else ⟨#[]⟩
theorem markT (n : Nat) (hn : n ≤ 1000000000000000000) : Ev (fun k => laws_markText.f k (n : Int)) (mk_ n) := by
 unfold mk_
 rw [dif_pos hn]
 exact Classical.choose_spec (mark_any n hn)
noncomputable def marks (a n : Nat) : List ByteArray := (List.range n).map fun i => mk_ (a + i)
theorem marks_length (a n : Nat) : (marks a n).length = n := by simp [marks]
theorem marks_at (a n i : Nat) (h : i < n) : (marks a n)[i]'(by rw [marks_length]; exact h) = mk_ (a + i) := by simp [marks]
theorem markS_loop (l : List ByteArray) (a : Nat) (hl : l.length ≤ 1000000000) (ha : a ≤ 1000000000) : ∀ (d i : Nat), i + d = l.length → Ev (fun k => laws_markStringS.l0 k ((marks a i) ++ l.drop i) ((a + i : Nat) : Int) (i : Int)) (((a + l.length : Nat) : Int), marks a l.length) := by
 intro d
 induction d with
 | zero =>
  intro i hi
  have hi' : i = l.length := by omega
  subst hi'
  refine Ev.step (f := fun _ => some (((a + l.length : Nat) : Int), marks a l.length)) (fun k => ?_) (Ev.now _)
  simp only [laws_markStringS.l0]
  rw [if_neg (by simp [marks_length]), List.drop_length, List.append_nil]
 | succ d ih =>
  intro i hi
  have hlt : i < l.length := by omega
  refine Ev.step (f := fun k => (laws_markText.f k ((a + i : Nat) : Int)).bind fun t => laws_markStringS.l0 k (((marks a i) ++ l.drop i).set i t) ((a + (i + 1) : Nat) : Int) ((i + 1 : Nat) : Int)) (fun k => ?_) ?_
  ·simp only [laws_markStringS.l0]
   rw [if_pos (by simp only [List.length_append, marks_length, List.length_drop]; omega)]
   congr 1
   funext t
   rw [if_pos (by omega), w64 (x := ((a + i : Nat) : Int) + 1) (by omega) (by omega), w64 (x := (i : Int) + 1) (by omega) (by omega)]
   rfl
  ·refine ev_bind (markT (a + i) (by omega)) ?_
   have hset : ((marks a i) ++ l.drop i).set i (mk_ (a + i)) = marks a (i + 1) ++ l.drop (i + 1) := by
    rw [List.set_append_right _ _ (by rw [marks_length]; omega), marks_length, Nat.sub_self, List.drop_eq_getElem_cons hlt, List.set_cons_zero]
    simp [marks, List.range_succ]
   rw [hset]
   exact ih (i + 1) (by omega)
theorem markS (l : List ByteArray) (a : Nat) (hl : l.length ≤ 1000000000) (ha : a ≤ 1000000000) : Ev (fun k => laws_markStringS.f k l (a : Int)) (((a + l.length : Nat) : Int), marks a l.length) := by
 have := markS_loop l a hl ha l.length 0 (by omega)
 simp only [List.drop_zero, marks, List.range_zero, List.map_nil, List.nil_append, Nat.add_zero] at this
 exact this
theorem heldS (n a : Nat) (hl : n ≤ 1000000000) (ha : a ≤ 1000000000) : Ev (fun k => laws_heldStringS.f k (marks a n) (a : Int)) ((a + n : Nat) : Int) := by
 have key : ∀ (d i : Nat), i + d = n → Ev (fun k => laws_heldStringS.l0 k (marks a n) ((a + i : Nat) : Int) (i : Int)) ((a + n : Nat) : Int) := by
  intro d
  induction d with
  | zero =>
   intro i hi
   refine Ev.step (f := fun _ => some ((a + n : Nat) : Int)) (fun k => ?_) (Ev.now _)
   simp only [laws_heldStringS.l0]
   rw [if_neg (by rw [marks_length]; omega), show i = n by omega]
  | succ d ih =>
   intro i hi
   have hlt : i < (marks a n).length := by rw [marks_length]; omega
   refine Ev.step (f := fun k => (laws_markText.f k ((a + i : Nat) : Int)).bind fun t => if (mk_ (a + i)).toList = t.toList then laws_heldStringS.l0 k (marks a n) ((a + (i + 1) : Nat) : Int) ((i + 1 : Nat) : Int) else some (-1)) (fun k => ?_) ?_
   ·simp only [laws_heldStringS.l0]
    rw [if_pos (by rw [marks_length]; omega), if_pos (by omega), rdOf_at _ _ _ hlt, marks_at _ _ _ (by omega), w64 (x := ((a + i : Nat) : Int) + 1) (by omega) (by omega), w64 (x := (i : Int) + 1) (by omega) (by omega)]
    rfl
   ·exact ev_bind (markT (a + i) (by omega)) (ev_pos rfl (ih (i + 1) (by omega)))
 exact key n 0 (by omega)
end Go.Proofs.Ytmfipefpmjcddaa.PL
end
section
namespace Go.Proofs.Ytmfipefpmjcddaa.PS
open Go.RowKit Go.Proofs.YtmfipefpmjcddaaW.PrintWords Go.Proofs.YtmfipefpmjcddaaW.PrintLast Go.Proofs.YtmfipefpmjcddaaW.PrintMore Go.Proofs.Ytmfipefpmjcddaa.PB Go.Proofs.Ytmfipefpmjcddaa.PD Go.Proofs.Ytmfipefpmjcddaa.PK Go.Proofs.Ytmfipefpmjcddaa.PL Go.Proofs.Ytmfipefpmjcddaa.PA
set_option linter.unusedVariables false
theorem chainS' (s : ByteArray) (a b : Int) (h0 : 0 ≤ a) (h1 : 0 ≤ b) (h2 : a + b ≤ 1000) (hs : s.size ≤ 1000000) : Ev (fun k => spec_l2Chain.f k s a b) (chainM s a.toNat b.toNat) := by
 obtain ⟨m, rfl⟩ := Int.eq_ofNat_of_zero_le h0
 obtain ⟨n, rfl⟩ := Int.eq_ofNat_of_zero_le h1
 exact chainS s m n (by omega) hs
theorem chainI' (s : ByteArray) (a b : Int) (h0 : 0 ≤ a) (h1 : 0 ≤ b) (h2 : a + b ≤ 1000) (hs : s.size ≤ 1000000) : Ev (fun k => impl_chain.f k s a b) (chainM s a.toNat b.toNat) := by
 obtain ⟨m, rfl⟩ := Int.eq_ofNat_of_zero_le h0
 obtain ⟨n, rfl⟩ := Int.eq_ofNat_of_zero_le h1
 exact chainI s m n (by omega) hs
theorem kk : Kd_ 107 := ⟨by decide, by decide⟩
theorem kp : Kd_ 112 := ⟨by decide, by decide⟩
def keyM (seed : ByteArray) (i : Nat) : ByteArray := dig 107 (one (i : Int) ++ seed)
theorem keyM_size (seed : ByteArray) (i : Nat) : (keyM seed i).size = 4 := dig_size _ _
theorem keyS (seed : ByteArray) (hs : seed.size ≤ 1000000) (i : Nat) : Ev (fun k => spec_l2Key.f k seed (i : Int)) (keyM seed i) := by
 refine Ev.congr (f := fun k => (spec_l1Digest.f k 107 (one (i : Int) ++ seed)).bind fun t => some t) (fun k => ?_) (ev_bind (digS 107 kk _ (by rw [app_size, one_size]; omega)) (Ev.now _))
 simp only [spec_l2Key.f, Option.bind_some]
 rw [if_pos (by rw [strOfNums_size]; simp only [List.length_cons, List.length_nil]; omega)]
 rfl
def signAt (seed text : ByteArray) (i : Nat) : ByteArray := chainM (keyM seed i) 0 (rd (digitsM text) (i : Int)).toNat
def signM (seed text : ByteArray) : List ByteArray := (List.range 11).map (signAt seed text)
theorem signM_length (seed text : ByteArray) : (signM seed text).length = 11 := by simp [signM]
theorem signS (seed text : ByteArray) (hs : seed.size ≤ 1000000) (ht : text.size ≤ 1000000) : Ev (fun k => spec_l2Sign.f k seed text) (signM seed text) := by
 have hlen := digitsM_length text
 have key : ∀ (d i : Nat), i + d = 11 → Ev (fun k => spec_l2Sign.l0 k seed ((List.range i).map (signAt seed text)) (digitsM text) ((digitsM text).length : Int) (i : Int)) (signM seed text) := by
  intro d
  induction d with
  | zero =>
   intro i hi
   refine Ev.step (f := fun _ => some (signM seed text)) (fun k => ?_) (Ev.now _)
   simp only [spec_l2Sign.l0]
   rw [if_neg (by omega), show i = 11 by omega]
   rfl
  | succ d ih =>
   intro i hi
   have hr := rd_digits text i (by omega)
   refine Ev.step (f := fun k => (spec_l2Key.f k seed (i : Int)).bind fun t145 => (spec_l2Chain.f k t145 0 (rd (digitsM text) (i : Int))).bind fun t146 => spec_l2Sign.l0 k seed ((List.range i).map (signAt seed text) ++ [t146]) (digitsM text) ((digitsM text).length : Int) ((i + 1 : Nat) : Int)) (fun k => ?_) ?_
   ·simp only [spec_l2Sign.l0]
    rw [if_pos (by omega), if_pos (by omega), if_pos (by omega), w64 (x := (i : Int) + 1) (by omega) (by omega)]
    have hc : ((List.range i).map (signAt seed text)).length < 8796093022208 := by simp only [List.length_map, List.length_range]; omega
    simp only [if_pos hc]
    rfl
   ·refine ev_bind (keyS seed hs i) (ev_bind (chainS' _ 0 _ (by omega) hr.1 (by omega) (by rw [keyM_size]; omega)) ?_)
    have e : (List.range i).map (signAt seed text) ++ [chainM (keyM seed i) (0 : Int).toNat (rd (digitsM text) (i : Int)).toNat] = (List.range (i + 1)).map (signAt seed text) := by
     rw [List.range_succ, List.map_append]; rfl
    rw [e]
    exact ih (i + 1) (by omega)
 exact ev_bind (digitsS text ht) (key 11 0 (by omega))
def partsM (seed : ByteArray) : List ByteArray := (List.range 11).map (keyM seed)
theorem partsI (seed : ByteArray) (hs : seed.size ≤ 1000000) : Ev (fun k => impl_parts.f k seed) (partsM seed) := by
 have key : ∀ (d i : Nat), i + d = 11 → Ev (fun k => impl_parts.l0 k seed ((List.range i).map (keyM seed)) (i : Int)) (partsM seed) := by
  intro d
  induction d with
  | zero =>
   intro i hi
   refine Ev.step (f := fun _ => some (partsM seed)) (fun k => ?_) (Ev.now _)
   simp only [impl_parts.l0]
   rw [if_neg (by omega), show i = 11 by omega]
   rfl
  | succ d ih =>
   intro i hi
   refine Ev.step (f := fun k => (impl_digest.f k 107 (one (i : Int) ++ seed)).bind fun t => impl_parts.l0 k seed ((List.range i).map (keyM seed) ++ [t]) ((i + 1 : Nat) : Int)) (fun k => ?_) ?_
   ·simp only [impl_parts.l0]
    rw [if_pos (by omega), oneI]
    simp only [Option.bind_some]
    rw [if_pos (by rw [one_size]; omega), w64 (x := (i : Int) + 1) (by omega) (by omega)]
    congr 1
    funext t
    rw [if_pos (by simp only [List.length_map, List.length_range]; omega)]
    rfl
   ·refine ev_bind (digI 107 kk _ (by rw [app_size, one_size]; omega)) ?_
    have e : (List.range i).map (keyM seed) ++ [dig 107 (one (i : Int) ++ seed)] = (List.range (i + 1)).map (keyM seed) := by
     rw [List.range_succ, List.map_append]; rfl
    rw [e]
    exact ih (i + 1) (by omega)
 exact key 11 0 (by omega)
theorem signI (seed text : ByteArray) (hs : seed.size ≤ 1000000) (ht : text.size ≤ 1000000) : Ev (fun k => impl_sign.f k seed text) (signM seed text) := by
 have hlen := digitsM_length text
 let mid := fun (i : Nat) => (List.range 11).map fun j => if j < i then signAt seed text j else keyM seed j
 have hmid : ∀ i, (mid i).length = 11 := fun i => by simp [mid]
 have hat : ∀ i j (h : j < 11), (mid i)[j]'(by rw [hmid]; exact h) = if j < i then signAt seed text j else keyM seed j := fun i j h => by simp [mid]
 have key : ∀ (d i : Nat), i + d = 11 → Ev (fun k => impl_sign.l0 k (mid i) (digitsM text) ((digitsM text).length : Int) (i : Int)) (signM seed text) := by
  intro d
  induction d with
  | zero =>
   intro i hi
   refine Ev.step (f := fun _ => some (signM seed text)) (fun k => ?_) (Ev.now _)
   simp only [impl_sign.l0]
   rw [if_neg (by omega), show i = 11 by omega]
   refine congrArg some ?_
   apply List.ext_getElem
   ·rw [hmid, signM_length]
   ·intro j h1 h2
    rw [hmid] at h1
    rw [hat 11 j h1, if_pos h1]
    simp [signM]
  | succ d ih =>
   intro i hi
   have hr := rd_digits text i (by omega)
   have hm := hmid i
   refine Ev.step (f := fun k => (impl_chain.f k (keyM seed i) 0 (rd (digitsM text) (i : Int))).bind fun t => impl_sign.l0 k ((mid i).set i t) (digitsM text) ((digitsM text).length : Int) ((i + 1 : Nat) : Int)) (fun k => ?_) ?_
   ·simp only [impl_sign.l0]
    rw [if_pos (by omega), if_pos (by omega), if_pos (by omega), if_pos (by omega), rdOf_at _ _ i (by omega), hat i i (by omega), if_neg (by omega), w64 (x := (i : Int) + 1) (by omega) (by omega)]
    rfl
   ·refine ev_bind (chainI' _ 0 _ (by omega) hr.1 (by omega) (by rw [keyM_size]; omega)) ?_
    have e : (mid i).set i (chainM (keyM seed i) (0 : Int).toNat (rd (digitsM text) (i : Int)).toNat) = mid (i + 1) := by
     apply List.ext_getElem
     ·rw [List.length_set, hmid, hmid]
     ·intro j h1 h2
      rw [hmid] at h2
      rw [List.getElem_set, hat (i + 1) j h2]
      by_cases hj : i = j
      ·subst hj
       rw [if_pos rfl, if_pos (by omega)]
       rfl
      ·rw [if_neg hj, hat i j h2]
       by_cases hj2 : j < i
       ·rw [if_pos hj2, if_pos (by omega)]
       ·rw [if_neg hj2, if_neg (by omega)]
    rw [e]
    exact ih (i + 1) (by omega)
 refine ev_bind (partsI seed hs) (ev_bind (digitsI text ht) ?_)
 have e : partsM seed = mid 0 := by simp [partsM, mid]
 rw [e]
 exact key 11 0 (by omega)
def joined : List ByteArray → ByteArray → ByteArray
 | [], s => s
 | t :: l, s => joined l (s ++ t)
theorem joined_snoc (l : List ByteArray) (t s : ByteArray) : joined (l ++ [t]) s = joined l s ++ t := by
 induction l generalizing s with
 | nil => rfl
 | cons a l ih => exact ih (s ++ a)
end Go.Proofs.Ytmfipefpmjcddaa.PS
end
section
namespace Go.Proofs.Ytmfipefpmjcddaa.PT
open Go.RowKit Go.Proofs.YtmfipefpmjcddaaW.PrintWords Go.Proofs.YtmfipefpmjcddaaW.PrintLast Go.Proofs.YtmfipefpmjcddaaW.PrintMore Go.Proofs.Ytmfipefpmjcddaa.PB Go.Proofs.Ytmfipefpmjcddaa.PD Go.Proofs.Ytmfipefpmjcddaa.PK Go.Proofs.Ytmfipefpmjcddaa.PL Go.Proofs.Ytmfipefpmjcddaa.PS Go.Proofs.Ytmfipefpmjcddaa.PA
set_option linter.unusedVariables false
theorem inS (a b c : Int) : spec_l1In.f a b c = some (decide (b ≤ a ∧ a ≤ c)) := by
 unfold spec_l1In.f
 by_cases h : a ≥ b
 ·rw [if_pos h]; simp [show b ≤ a from h]
 ·rw [if_neg h]; simp [show ¬ b ≤ a from h]
theorem inI (a b c : Int) : impl_within.f a b c = some (decide (b ≤ a ∧ a ≤ c)) := by
 unfold impl_within.f
 by_cases h : a ≥ b
 ·rw [if_pos h]; simp [show b ≤ a from h]
 ·rw [if_neg h]; simp [show ¬ b ≤ a from h]
theorem longS (a : ByteArray) : spec_l2Long.f a = some (decide ((a.size : Int) ≤ 200)) := rfl
end Go.Proofs.Ytmfipefpmjcddaa.PT
end
section
namespace Go.Proofs.Ytmfipefpmjcddaa.PU

end Go.Proofs.Ytmfipefpmjcddaa.PU
end
section
namespace Go.Proofs.Ytmfipefpmjcddaa.QJ
open Go.RowKit Go.Proofs.YtmfipefpmjcddaaW.PrintWords Go.Proofs.YtmfipefpmjcddaaW.PrintLast Go.Proofs.YtmfipefpmjcddaaW.PrintMore Go.Proofs.Ytmfipefpmjcddaa.PB Go.Proofs.Ytmfipefpmjcddaa.PD Go.Proofs.Ytmfipefpmjcddaa.PK Go.Proofs.Ytmfipefpmjcddaa.PL Go.Proofs.Ytmfipefpmjcddaa.PS Go.Proofs.Ytmfipefpmjcddaa.PT Go.Proofs.Ytmfipefpmjcddaa.PU Go.Proofs.Ytmfipefpmjcddaa.PA
set_option linter.unusedVariables false
def pubAt (seed : ByteArray) (i : Nat) : ByteArray := chainM (keyM seed i) 0 15
def publicM (seed : ByteArray) : ByteArray := dig 112 (joined ((List.range 11).map (pubAt seed)) ⟨#[]⟩)
theorem pub_size (seed : ByteArray) : ∀ i, (joined ((List.range i).map (pubAt seed)) ⟨#[]⟩).size = 4 * i := by
 intro i
 induction i with
 | zero => rfl
 | succ i ih =>
  rw [List.range_succ, List.map_append, List.map_cons, List.map_nil, joined_snoc, app_size, ih]
  unfold pubAt
  rw [chainM_size _ (keyM_size _ _)]
  omega
theorem publicS (seed : ByteArray) (hs : seed.size ≤ 1000000) : Ev (fun k => spec_l2Public.f k seed) (publicM seed) := by
 have key : ∀ (d i : Nat), i + d = 11 → Ev (fun k => spec_l2Public.l0 k seed (joined ((List.range i).map (pubAt seed)) ⟨#[]⟩) (i : Int)) (publicM seed) := by
  intro d
  induction d with
  | zero =>
   intro i hi
   have hj := pub_size seed 11
   refine Ev.step (f := fun k => (spec_l1Digest.f k 112 (joined ((List.range 11).map (pubAt seed)) ⟨#[]⟩)).bind fun t => some t) (fun k => ?_) (ev_bind (digS 112 kp _ (by omega)) (Ev.now _))
   simp only [spec_l2Public.l0]
   rw [if_neg (by omega), show i = 11 by omega]
  | succ d ih =>
   intro i hi
   have hj := pub_size seed i
   refine Ev.step (f := fun k => (spec_l2Key.f k seed (i : Int)).bind fun u => (spec_l2Chain.f k u 0 15).bind fun t => if (joined ((List.range i).map (pubAt seed)) ⟨#[]⟩).size + t.size ≤ 9223372036854775807 then spec_l2Public.l0 k seed (joined ((List.range i).map (pubAt seed)) ⟨#[]⟩ ++ t) ((i + 1 : Nat) : Int) else none) (fun k => ?_) ?_
   ·simp only [spec_l2Public.l0]
    rw [if_pos (by omega), w64 (x := (i : Int) + 1) (by omega) (by omega)]
    rfl
   ·refine ev_bind (keyS seed hs i) (ev_bind (chainS' _ 0 15 (by omega) (by omega) (by omega) (by rw [keyM_size]; omega)) (ev_pos (by rw [chainM_size _ (keyM_size _ _)]; omega) ?_))
    have e : joined ((List.range i).map (pubAt seed)) ⟨#[]⟩ ++ chainM (keyM seed i) (0 : Int).toNat (15 : Int).toNat = joined ((List.range (i + 1)).map (pubAt seed)) ⟨#[]⟩ := by
     rw [List.range_succ, List.map_append, List.map_cons, List.map_nil, joined_snoc]; rfl
    rw [e]
    exact ih (i + 1) (by omega)
 exact key 11 0 (by omega)
theorem parts_at (seed : ByteArray) (i : Nat) (h : i < 11) : rdOf ByteArray.empty (partsM seed) (i : Int) = keyM seed i := by
 rw [rdOf_at _ _ i (by simp [partsM]; omega)]; simp [partsM]
theorem parts_len (seed : ByteArray) : (partsM seed).length = 11 := by simp [partsM]
theorem publicI (seed : ByteArray) (hs : seed.size ≤ 1000000) : Ev (fun k => impl_public.f k seed) (publicM seed) := by
 have hl := parts_len seed
 have key : ∀ (d i : Nat), i + d = 11 → Ev (fun k => impl_public.l0 k (joined ((List.range i).map (pubAt seed)) ⟨#[]⟩) (partsM seed) ((partsM seed).length : Int) (i : Int)) (publicM seed) := by
  intro d
  induction d with
  | zero =>
   intro i hi
   have hj := pub_size seed 11
   refine Ev.step (f := fun k => (impl_digest.f k 112 (joined ((List.range 11).map (pubAt seed)) ⟨#[]⟩)).bind fun t => some t) (fun k => ?_) (ev_bind (digI 112 kp _ (by omega)) (Ev.now _))
   simp only [impl_public.l0]
   rw [if_neg (by omega), show i = 11 by omega]
  | succ d ih =>
   intro i hi
   have hj := pub_size seed i
   refine Ev.step (f := fun k => (impl_chain.f k (keyM seed i) 0 15).bind fun t => if (joined ((List.range i).map (pubAt seed)) ⟨#[]⟩).size + t.size ≤ 9223372036854775807 then impl_public.l0 k (joined ((List.range i).map (pubAt seed)) ⟨#[]⟩ ++ t) (partsM seed) ((partsM seed).length : Int) ((i + 1 : Nat) : Int) else none) (fun k => ?_) ?_
   ·simp only [impl_public.l0]
    rw [if_pos (by omega), if_pos (by omega), if_pos (by omega), parts_at seed i (by omega), w64 (x := (i : Int) + 1) (by omega) (by omega)]
    rfl
   ·refine ev_bind (chainI' _ 0 15 (by omega) (by omega) (by omega) (by rw [keyM_size]; omega)) (ev_pos (by rw [chainM_size _ (keyM_size _ _)]; omega) ?_)
    have e : joined ((List.range i).map (pubAt seed)) ⟨#[]⟩ ++ chainM (keyM seed i) (0 : Int).toNat (15 : Int).toNat = joined ((List.range (i + 1)).map (pubAt seed)) ⟨#[]⟩ := by
     rw [List.range_succ, List.map_append, List.map_cons, List.map_nil, joined_snoc]; rfl
    rw [e]
    exact ih (i + 1) (by omega)
 exact ev_bind (partsI seed hs) (key 11 0 (by omega))
theorem k116 : Kd_ 116 := ⟨by decide, by decide⟩
theorem pairDS (a b : ByteArray) (ha : a.size ≤ 1000000) (hb : b.size ≤ 1000000) : Ev (fun k => spec_l3Pair.f k a b) (dig 116 (a ++ b)) :=
 ev_pos (by omega) (ev_bind (digS 116 k116 _ (by rw [app_size]; omega)) (Ev.now _))
theorem pairDI (a b : ByteArray) (ha : a.size ≤ 1000000) (hb : b.size ≤ 1000000) : Ev (fun k => impl_pair.f k a b) (dig 116 (a ++ b)) :=
 ev_pos (by omega) (ev_bind (digI 116 k116 _ (by rw [app_size]; omega)) (Ev.now _))
theorem ofS (s : ByteArray) (n : Int) (hs : s.size ≤ 1000000) : spec_l3Of.f s n = some (s ++ one n) := by
 have := one_size n
 unfold spec_l3Of.f
 rw [Option.bind_some, if_pos (by show s.size + (one n).size ≤ _; omega)]
 rfl
theorem ofI (s : ByteArray) (n : Int) (hs : s.size ≤ 1000000) : impl_seedOf.f s n = some (s ++ one n) := by
 have := one_size n
 unfold impl_seedOf.f
 rw [oneI, Option.bind_some, if_pos (by omega)]
def leafM (seed : ByteArray) (i : Nat) : ByteArray := publicM (seed ++ one (i : Int))
theorem leafM_size (seed : ByteArray) (i : Nat) : (leafM seed i).size = 4 := dig_size _ _
def leavesM (seed : ByteArray) : List ByteArray := (List.range 8).map (leafM seed)
def All4 (l : List ByteArray) : Prop := ∀ s ∈ l, s.size = 4
theorem leaves4 (seed : ByteArray) : All4 (leavesM seed) := by
 intro s hs
 obtain ⟨i, _, rfl⟩ := List.mem_map.1 hs
 exact leafM_size _ _
theorem leaves_len (seed : ByteArray) : (leavesM seed).length = 8 := by simp [leavesM]
def nextL : List ByteArray → List ByteArray
 | a :: b :: l => dig 116 (a ++ b) :: nextL l
 | _ => []
theorem next4 : ∀ (n : Nat) (l : List ByteArray), l.length ≤ n → All4 (nextL l) := by
 intro n
 induction n with
 | zero => intro l hl; cases l with
  | nil => intro s hs; cases hs
  | cons a l => simp at hl
 | succ n ih => intro l hl; match l with
  | [] => intro s hs; cases hs
  | [a] => intro s hs; cases hs
  | a :: b :: l =>
   intro s hs
   rcases List.mem_cons.1 hs with rfl | hs
   ·exact dig_size _ _
   ·exact ih l (by simp only [List.length_cons] at hl; omega) s hs
theorem next_len : ∀ (m : Nat) (l : List ByteArray), l.length = 2 * m → (nextL l).length = m := by
 intro m
 induction m with
 | zero => intro l hl; cases l with
  | nil => rfl
  | cons a l => simp at hl
 | succ m ih => intro l hl; match l with
  | [] => exact absurd hl (by simp only [List.length_nil]; omega)
  | [a] => exact absurd hl (by simp only [List.length_cons, List.length_nil]; omega)
  | a :: b :: l =>
   show (nextL l).length + 1 = m + 1
   rw [ih l (by simp only [List.length_cons] at hl; omega)]
theorem drop_two (l : List ByteArray) (i : Nat) (h : i + 1 < l.length) : l.drop i = l[i] :: l[i + 1] :: l.drop (i + 2) := by
 rw [List.drop_eq_getElem_cons (by omega), List.drop_eq_getElem_cons (by omega)]
theorem four_of {l : List ByteArray} (h : All4 l) (i : Nat) (hi : i < l.length) : l[i].size = 4 := h _ (List.getElem_mem hi)
theorem wp1 (j : Nat) (h : j ≤ 1000) : wrap64 (((2 * j : Nat) : Int) + 1) = ((2 * j + 1 : Nat) : Int) := by rw [w64 (by omega) (by omega)]; omega
theorem wp2 (j : Nat) (h : j ≤ 1000) : wrap64 (((2 * j : Nat) : Int) + 2) = ((2 * (j + 1) : Nat) : Int) := by rw [w64 (by omega) (by omega)]; omega
theorem wp3 (i : Nat) (h : i ≤ 1000) : wrap64 ((i : Int) + 1) = ((i + 1 : Nat) : Int) := by rw [w64 (by omega) (by omega)]; omega
theorem pairsS (row : List ByteArray) (out : List (List ByteArray)) (h4 : All4 row) (hl : row.length ≤ 100) (ho : out.length ≤ 100) {r : List (List ByteArray)} (m : Nat) (hm : row.length = 2 * m) (hr : Ev (fun k => spec_l3Rows.l1 k (nextL row) (out ++ [nextL row])) r) :
  Ev (fun k => spec_l3Rows.l2 k row out [] 0) r := by
 have key : ∀ (d j : Nat) (acc : List ByteArray), 2 * (j + d) = row.length → acc.length = j → acc ++ nextL (row.drop (2 * j)) = nextL row → Ev (fun k => spec_l3Rows.l2 k row out acc ((2 * j : Nat) : Int)) r := by
  intro d
  induction d with
  | zero =>
   intro j acc hj ha he
   rw [List.drop_eq_nil_of_le (by omega)] at he
   have e : acc = nextL row := by rw [← he]; show acc = acc ++ []; rw [List.append_nil]
   subst e
   refine Ev.step (fun k => ?_) hr
   simp only [spec_l3Rows.l2]
   rw [if_neg (by omega), if_pos (by omega)]
  | succ d ih =>
   intro j acc hj ha he
   have z1 := four_of h4 (2 * j) (by omega)
   have z2 := four_of h4 (2 * j + 1) (by omega)
   have r1 := ih (j + 1) (acc ++ [dig 116 (row[2 * j]'(by omega) ++ row[2 * j + 1]'(by omega))]) (by omega) (by rw [List.length_append]; simp only [List.length_cons, List.length_nil]; omega) (by
    rw [drop_two row (2 * j) (by omega)] at he
    rw [← he, List.append_assoc]
    rfl)
   refine Ev.step (f := fun k => (spec_l3Pair.f k (row[2 * j]'(by omega)) (row[2 * j + 1]'(by omega))).bind fun t => spec_l3Rows.l2 k row out (acc ++ [t]) ((2 * (j + 1) : Nat) : Int)) (fun k => ?_) (ev_bind (pairDS (row[2 * j]'(by omega)) (row[2 * j + 1]'(by omega)) (by omega) (by omega)) r1)
   simp only [spec_l3Rows.l2]
   rw [if_pos (by omega), if_pos (by omega), wp1 j (by omega), wp2 j (by omega), if_pos (by omega), if_pos (by omega), rdOf_at _ row (2 * j) (by omega), rdOf_at _ row (2 * j + 1) (by omega)]
   congr 1; funext t
   rw [if_pos (by omega)]
 exact key m 0 [] (by omega) rfl rfl
theorem pairsI (x1 : Int) (row out : List ByteArray) (h4 : All4 row) (hl : row.length ≤ 100) {r : List ByteArray × ByteArray} (m : Nat) (hm : row.length = 2 * m) (hr : Ev (fun k => impl_way.l1 k x1 (nextL row) out) r) :
  Ev (fun k => impl_way.l2 k x1 row out [] 0) r := by
 have key : ∀ (d j : Nat) (acc : List ByteArray), 2 * (j + d) = row.length → acc.length = j → acc ++ nextL (row.drop (2 * j)) = nextL row → Ev (fun k => impl_way.l2 k x1 row out acc ((2 * j : Nat) : Int)) r := by
  intro d
  induction d with
  | zero =>
   intro j acc hj ha he
   rw [List.drop_eq_nil_of_le (by omega)] at he
   have e : acc = nextL row := by rw [← he]; show acc = acc ++ []; rw [List.append_nil]
   subst e
   refine Ev.step (fun k => ?_) hr
   simp only [impl_way.l2]
   rw [if_neg (by omega)]
  | succ d ih =>
   intro j acc hj ha he
   have z1 := four_of h4 (2 * j) (by omega)
   have z2 := four_of h4 (2 * j + 1) (by omega)
   have r1 := ih (j + 1) (acc ++ [dig 116 (row[2 * j]'(by omega) ++ row[2 * j + 1]'(by omega))]) (by omega) (by rw [List.length_append]; simp only [List.length_cons, List.length_nil]; omega) (by
    rw [drop_two row (2 * j) (by omega)] at he
    rw [← he, List.append_assoc]
    rfl)
   refine Ev.step (f := fun k => (impl_pair.f k (row[2 * j]'(by omega)) (row[2 * j + 1]'(by omega))).bind fun t => impl_way.l2 k x1 row out (acc ++ [t]) ((2 * (j + 1) : Nat) : Int)) (fun k => ?_) (ev_bind (pairDI (row[2 * j]'(by omega)) (row[2 * j + 1]'(by omega)) (by omega) (by omega)) r1)
   simp only [impl_way.l2]
   rw [if_pos (by omega), if_pos (by omega), wp1 j (by omega), wp2 j (by omega), if_pos (by omega), if_pos (by omega), rdOf_at _ row (2 * j) (by omega), rdOf_at _ row (2 * j + 1) (by omega)]
   congr 1; funext t
   rw [if_pos (by omega)]
 exact key m 0 [] (by omega) rfl rfl
def row1 (seed : ByteArray) : List ByteArray := nextL (leavesM seed)
def row2 (seed : ByteArray) : List ByteArray := nextL (row1 seed)
def row3 (seed : ByteArray) : List ByteArray := nextL (row2 seed)
theorem row1_len (seed : ByteArray) : (row1 seed).length = 4 := next_len 4 _ (leaves_len seed)
theorem row2_len (seed : ByteArray) : (row2 seed).length = 2 := next_len 2 _ (row1_len seed)
theorem row3_len (seed : ByteArray) : (row3 seed).length = 1 := next_len 1 _ (row2_len seed)
def rowsM (seed : ByteArray) : List (List ByteArray) := [leavesM seed, row1 seed, row2 seed, row3 seed]
def topM (seed : ByteArray) : ByteArray := rdOf ByteArray.empty (row3 seed) 0
theorem leavesS (seed : ByteArray) (hs : seed.size ≤ 1000) {r : List (List ByteArray)} (hr : Ev (fun k => spec_l3Rows.l1 k (leavesM seed) [leavesM seed]) r) : Ev (fun k => spec_l3Rows.f k seed) r := by
 have key : ∀ (d i : Nat), i + d = 8 → Ev (fun k => spec_l3Rows.l0 k seed ((List.range i).map (leafM seed)) (i : Int)) r := by
  intro d
  induction d with
  | zero =>
   intro i hi
   have ei : i = 8 := by omega
   subst ei
   exact Ev.step (fun k => by simp only [spec_l3Rows.l0]; rw [if_neg (by omega)]; rfl) hr
  | succ d ih =>
   intro i hi
   have e : (List.range i).map (leafM seed) ++ [leafM seed i] = (List.range (i + 1)).map (leafM seed) := by rw [List.range_succ, List.map_append]; rfl
   have z : (seed ++ one (i : Int)).size ≤ 1000000 := by rw [app_size, one_size]; omega
   refine Ev.step (f := fun k => (spec_l2Public.f k (seed ++ one (i : Int))).bind fun t => spec_l3Rows.l0 k seed ((List.range i).map (leafM seed) ++ [t]) ((i + 1 : Nat) : Int)) (fun k => ?_) (ev_bind (publicS _ z) ?_)
   ·simp only [spec_l3Rows.l0]
    rw [if_pos (by omega), ofS seed _ (by omega), Option.bind_some, wp3 i (by omega)]
    congr 1; funext t
    rw [if_pos (by simp only [List.length_map, List.length_range]; omega)]
   ·have := ih (i + 1) (by omega)
    rw [← e] at this
    exact this
 exact key 8 0 (by omega)
theorem leavesI (seed : ByteArray) (no : Int) (hs : seed.size ≤ 1000) {r : List ByteArray × ByteArray} (hr : Ev (fun k => impl_way.l1 k no (leavesM seed) []) r) : Ev (fun k => impl_way.f k seed no) r := by
 have key : ∀ (d i : Nat), i + d = 8 → Ev (fun k => impl_way.l0 k seed no ((List.range i).map (leafM seed)) (i : Int)) r := by
  intro d
  induction d with
  | zero =>
   intro i hi
   have ei : i = 8 := by omega
   subst ei
   exact Ev.step (fun k => by simp only [impl_way.l0]; rw [if_neg (by omega)]; rfl) hr
  | succ d ih =>
   intro i hi
   have e : (List.range i).map (leafM seed) ++ [leafM seed i] = (List.range (i + 1)).map (leafM seed) := by rw [List.range_succ, List.map_append]; rfl
   have z : (seed ++ one (i : Int)).size ≤ 1000000 := by rw [app_size, one_size]; omega
   refine Ev.step (f := fun k => (impl_public.f k (seed ++ one (i : Int))).bind fun t => impl_way.l0 k seed no ((List.range i).map (leafM seed) ++ [t]) ((i + 1 : Nat) : Int)) (fun k => ?_) (ev_bind (publicI _ z) ?_)
   ·simp only [impl_way.l0]
    rw [if_pos (by omega), ofI seed _ (by omega), Option.bind_some, wp3 i (by omega)]
    congr 1; funext t
    rw [if_pos (by simp only [List.length_map, List.length_range]; omega)]
   ·have := ih (i + 1) (by omega)
    rw [← e] at this
    exact this
 exact key 8 0 (by omega)
theorem l1S (row : List ByteArray) (out : List (List ByteArray)) (h4 : All4 row) (hl : row.length ≤ 100) (ho : out.length ≤ 100) {r : List (List ByteArray)} (m : Nat) (hm : row.length = 2 * m) (hp : 0 < m) (hr : Ev (fun k => spec_l3Rows.l1 k (nextL row) (out ++ [nextL row])) r) : Ev (fun k => spec_l3Rows.l1 k row out) r :=
 Ev.step (fun k => by simp only [spec_l3Rows.l1]; rw [if_pos (by omega)]) (pairsS row out h4 hl ho m hm hr)
theorem rowsS (seed : ByteArray) (hs : seed.size ≤ 1000) : Ev (fun k => spec_l3Rows.f k seed) (rowsM seed) := by
 have l0 := leaves_len seed
 have l1 := row1_len seed
 have l2 := row2_len seed
 have l3 := row3_len seed
 refine leavesS seed hs (l1S _ _ (leaves4 seed) (by omega) (by simp) 4 (by omega) (by omega) ?_)
 refine l1S (row1 seed) _ (next4 8 _ (by omega)) (by omega) (by simp) 2 (by omega) (by omega) ?_
 refine l1S (row2 seed) _ (next4 4 _ (by omega)) (by omega) (by simp) 1 (by omega) (by omega) ?_
 exact Ev.step (f := fun _ => some (rowsM seed)) (fun k => by simp only [spec_l3Rows.l1]; rw [if_neg (by show ¬ ((row3 seed).length : Int) > 1; omega)]; rfl) (Ev.now _)
def sib (n : Nat) : Nat := if n % 2 = 0 then n + 1 else n - 1
theorem xor1 (n : Nat) (h : n < 8) : Go.bits .xor .i64 (n : Int) 1 = (sib n : Int) := by
 match n, h with
 | 0, _ => decide
 | 1, _ => decide
 | 2, _ => decide
 | 3, _ => decide
 | 4, _ => decide
 | 5, _ => decide
 | 6, _ => decide
 | 7, _ => decide
theorem half (n : Nat) (h : n < 8) : wrap64 (Int.tdiv (n : Int) 2) = ((n / 2 : Nat) : Int) := by
 rw [Int.tdiv_eq_ediv_of_nonneg (by omega), w64 (by omega) (by omega)]; omega
theorem sib_lt (n m : Nat) (h : n < 2 * m) : sib n < 2 * m := by unfold sib; split <;> omega
def wayM (seed : ByteArray) (n : Nat) : List ByteArray := [rdOf ByteArray.empty (leavesM seed) (sib n : Int), rdOf ByteArray.empty (row1 seed) (sib (n / 2) : Int), rdOf ByteArray.empty (row2 seed) (sib (n / 2 / 2) : Int)]
theorem wayS (seed : ByteArray) (n : Nat) (hs : seed.size ≤ 1000) (hn : n < 8) : Ev (fun k => spec_l3Way.f k seed (n : Int)) (wayM seed n) := by
 have l0 := leaves_len seed
 have l1 := row1_len seed
 have l2 := row2_len seed
 have step : ∀ (h : Nat) (row : List ByteArray) (x : Nat) (acc : List ByteArray) (m : Nat) {r : List ByteArray}, h < 3 → rd_L3 (rowsM seed) (h : Int) = row → row.length = 2 * m → x < 2 * m → 2 * m ≤ 8 → acc.length ≤ 100 → Ev (fun k => spec_l3Way.l0 k ((x / 2 : Nat) : Int) (rowsM seed) (acc ++ [rdOf ByteArray.empty row (sib x : Int)]) ((h + 1 : Nat) : Int)) r → Ev (fun k => spec_l3Way.l0 k (x : Int) (rowsM seed) acc (h : Int)) r := by
  intro h row x acc m r hh er hm hx hm8 ha hr
  have hz := sib_lt x m hx
  have hlen : (rowsM seed).length = 4 := rfl
  refine Ev.step (fun k => ?_) hr
  simp only [spec_l3Way.l0]
  rw [if_pos (by omega), if_pos (by omega), if_pos (by omega), xor1 x (by omega), if_pos (by omega), er, if_pos (by omega), if_pos (by omega), half x (by omega), wp3 h (by omega)]
 refine ev_bind (rowsS seed hs) ?_
 refine step 0 (leavesM seed) n [] 4 (by omega) rfl l0 (by omega) (by omega) (by simp) ?_
 refine step 1 (row1 seed) (n / 2) _ 2 (by omega) rfl l1 (by omega) (by omega) (by simp) ?_
 refine step 2 (row2 seed) (n / 2 / 2) _ 1 (by omega) rfl l2 (by omega) (by omega) (by simp) ?_
 exact Ev.step (f := fun _ => some (wayM seed n)) (fun k => by simp only [spec_l3Way.l0]; rw [if_neg (by omega)]; rfl) (Ev.now _)
theorem wayI (seed : ByteArray) (n : Nat) (hs : seed.size ≤ 1000) (hn : n < 8) : Ev (fun k => impl_way.f k seed (n : Int)) (wayM seed n, topM seed) := by
 have l0 := leaves_len seed
 have l1 := row1_len seed
 have l2 := row2_len seed
 have l3 := row3_len seed
 have step : ∀ (row : List ByteArray) (x : Nat) (acc : List ByteArray) (m : Nat) {r : List ByteArray × ByteArray}, All4 row → row.length = 2 * m → 0 < m → x < 2 * m → 2 * m ≤ 8 → acc.length ≤ 100 → Ev (fun k => impl_way.l1 k ((x / 2 : Nat) : Int) (nextL row) (acc ++ [rdOf ByteArray.empty row (sib x : Int)])) r → Ev (fun k => impl_way.l1 k (x : Int) row acc) r := by
  intro row x acc m r h4 hm hp hx hm8 ha hr
  have hz := sib_lt x m hx
  refine Ev.step (fun k => ?_) (pairsI ((x / 2 : Nat) : Int) row (acc ++ [rdOf ByteArray.empty row (sib x : Int)]) h4 (by omega) m hm hr)
  simp only [impl_way.l1]
  rw [if_pos (by omega), xor1 x (by omega), if_pos (by omega), if_pos (by omega), if_pos (by omega), half x (by omega)]
 refine leavesI seed _ hs ?_
 refine step (leavesM seed) n [] 4 (leaves4 seed) l0 (by omega) (by omega) (by omega) (by simp) ?_
 refine step (row1 seed) (n / 2) _ 2 (next4 8 _ (by omega)) l1 (by omega) (by omega) (by omega) (by simp) ?_
 refine step (row2 seed) (n / 2 / 2) _ 1 (next4 4 _ (by omega)) l2 (by omega) (by omega) (by omega) (by simp) ?_
 refine Ev.step (f := fun _ => some (wayM seed n, topM seed)) (fun k => ?_) (Ev.now _)
 simp only [impl_way.l1]
 rw [if_neg (by show ¬ ((row3 seed).length : Int) > 1; omega), if_pos (by show 0 < ((row3 seed).length : Int); omega)]
 rfl
theorem wayM_len (seed : ByteArray) (n : Nat) : (wayM seed n).length = 3 := rfl
def goodSg (seed : ByteArray) (u : Int) : Bool := decide (1 ≤ (seed.size : Int) ∧ (seed.size : Int) ≤ 8) && decide (0 ≤ u ∧ u ≤ 8)
theorem goodSgS (seed : ByteArray) (u : Int) : spec_GoodSigner.f seed u = some (goodSg seed u) := by
 unfold spec_GoodSigner.f spec_l3Seed.f goodSg
 rw [inS, inS]
 simp only [Option.bind_some]
 cases decide (1 ≤ (seed.size : Int) ∧ (seed.size : Int) ≤ 8) <;> rfl
theorem goodSgI (seed : ByteArray) (u : Int) : impl_GoodSigner.f seed u = some (goodSg seed u) := by
 unfold impl_GoodSigner.f impl_isSeed.f goodSg
 rw [inI, inI]
 simp only [Option.bind_some]
 cases decide (1 ≤ (seed.size : Int) ∧ (seed.size : Int) ≤ 8) <;> rfl
abbrev SealAns := ByteArray × Int × Int × List ByteArray × List ByteArray × Bool
def noSeal : SealAns := (⟨#[]⟩, 0, 0, [], [], false)
def sealM (seed : ByteArray) (u : Int) (text : ByteArray) : SealAns :=
 if goodSg seed u = true ∧ (text.size : Int) ≤ 200 ∧ u ≠ 8 then (seed, u + 1, u, signM (seed ++ one u) text, wayM seed u.toNat, true) else noSeal
theorem goodSg_facts {seed : ByteArray} {u : Int} (h : goodSg seed u = true) : seed.size ≤ 8 ∧ 0 ≤ u ∧ u ≤ 8 := by
 unfold goodSg at h
 rw [Bool.and_eq_true] at h
 have h1 := of_decide_eq_true h.1
 have h2 := of_decide_eq_true h.2
 omega
theorem sealS (seed : ByteArray) (u : Int) (text : ByteArray) : Ev (fun k => spec_SealText.f k seed u text) (sealM seed u text) := by
 have no : Ev (fun k => spec_SealText.j0 k text true seed u) noSeal := Ev.step (f := fun _ => some noSeal) (fun k => by simp only [spec_SealText.j0]; rw [if_pos trivial]; rfl) (Ev.now _)
 unfold sealM
 by_cases g : goodSg seed u = true
 ·obtain ⟨hs, h0, h8⟩ := goodSg_facts g
  by_cases ht : (text.size : Int) ≤ 200
  ·by_cases hu : u = 8
   ·rw [if_neg (by omega)]
    subst hu
    exact ev_const (goodSgS _ _) (ev_pos g (ev_const (longS text) (ev_pos (decide_eq_true ht) no)))
   ·rw [if_pos ⟨g, ht, hu⟩]
    obtain ⟨n, rfl⟩ := Int.eq_ofNat_of_zero_le h0
    have w : wrap64 ((n : Int) + 1) = (n : Int) + 1 := w64 (by omega) (by omega)
    have z : (seed ++ one (n : Int)).size ≤ 1000000 := by rw [app_size, one_size]; omega
    refine ev_const (goodSgS _ _) (ev_pos g (ev_const (longS text) (ev_pos (decide_eq_true ht) ?_)))
    rw [beq_eq_false_iff_ne.2 hu]
    refine Ev.step (f := fun k => (spec_l2Sign.f k (seed ++ one (n : Int)) text).bind fun t => (spec_l3Way.f k seed (n : Int)).bind fun y => some (seed, (n : Int) + 1, (n : Int), t, y, true)) (fun k => ?_) (ev_bind (signS _ text z (by omega)) (ev_bind (wayS seed n (by omega) (by omega)) (Ev.now _)))
    simp only [spec_SealText.j0]
    rw [if_neg (by simp), ofS seed _ (by omega), Option.bind_some, w]
  ·rw [if_neg (by omega)]
   exact ev_const (goodSgS _ _) (ev_pos g (ev_const (longS text) (ev_neg (by simp [ht]) no)))
 ·rw [if_neg (fun h => g h.1)]
  exact ev_const (goodSgS _ _) (ev_neg g no)
theorem sealI (seed : ByteArray) (u : Int) (text : ByteArray) : Ev (fun k => impl_SealText.f k seed u text) (sealM seed u text) := by
 have no : Ev (fun k => impl_SealText.j0 k text true seed u) noSeal := Ev.step (f := fun _ => some noSeal) (fun k => by simp only [impl_SealText.j0]; rw [if_pos trivial]; rfl) (Ev.now _)
 unfold sealM
 by_cases g : goodSg seed u = true
 ·obtain ⟨hs, h0, h8⟩ := goodSg_facts g
  by_cases hu : u = 8
  ·rw [if_neg (by omega)]
   exact ev_const (goodSgI _ _) (ev_pos g (ev_pos hu no))
  ·refine ev_const (goodSgI _ _) (ev_pos g (ev_neg hu ?_))
   by_cases ht : (text.size : Int) ≤ 200
   ·rw [if_pos ⟨g, ht, hu⟩, decide_eq_false (by omega)]
    obtain ⟨n, rfl⟩ := Int.eq_ofNat_of_zero_le h0
    have w : wrap64 ((n : Int) + 1) = (n : Int) + 1 := w64 (by omega) (by omega)
    have z : (seed ++ one (n : Int)).size ≤ 1000000 := by rw [app_size, one_size]; omega
    refine Ev.step (f := fun k => (impl_way.f k seed (n : Int)).bind fun y => (impl_sign.f k (seed ++ one (n : Int)) text).bind fun t => some (seed, (n : Int) + 1, (n : Int), t, y.1, true)) (fun k => ?_) (ev_bind (wayI seed n (by omega) (by omega)) (ev_bind (signI _ text z (by omega)) (Ev.now _)))
    simp only [impl_SealText.j0]
    rw [if_neg (by simp), ofI seed _ (by omega), w]
    rfl
   ·rw [if_neg (by omega), decide_eq_true (by omega)]
    exact no
 ·rw [if_neg (fun h => g h.1)]
  exact ev_const (goodSgI _ _) (ev_neg g no)
theorem sealM_len (seed : ByteArray) (u : Int) (text : ByteArray) : (sealM seed u text).2.2.2.1.length ≤ 11 ∧ (sealM seed u text).2.2.2.2.1.length ≤ 3 := by
 unfold sealM
 split
 ·exact ⟨by show (signM _ _).length ≤ 11; rw [signM_length]; omega, by show (wayM _ _).length ≤ 3; rw [wayM_len]; omega⟩
 ·exact ⟨by simp [noSeal], by simp [noSeal]⟩
end Go.Proofs.Ytmfipefpmjcddaa.QJ
end
section
namespace Go.Proofs.Ytmfipefpmjcddaa.Pure
open Go.RowKit Go.Proofs.YtmfipefpmjcddaaW.PrintWords Go.Proofs.YtmfipefpmjcddaaW.PrintLast Go.Proofs.YtmfipefpmjcddaaW.PrintMore Go.Proofs.Ytmfipefpmjcddaa.PB Go.Proofs.Ytmfipefpmjcddaa.PL Go.Proofs.Ytmfipefpmjcddaa.PS Go.Proofs.Ytmfipefpmjcddaa.QJ Go.Proofs.Ytmfipefpmjcddaa.PA
set_option linter.unusedVariables false
theorem FnExactSealText (seed : ByteArray) (u : Int) (text : ByteArray) (h0 : seed.size ≤ maxLen ∧ (Lit.int .i64 u).wf = true) (h1 : text.size ≤ maxLen) : ∃ k, laws_FnExactSealText.f k seed u text = some true := by
 refine Ev.rounds ?_
 unfold laws_FnExactSealText.f
 by_cases c0 : (text.size : Int) > 1048576
 ·exact ev_pos c0 (Ev.now _)
 refine ev_neg c0 ?_
 have hm : seed.size ≤ 9223372036854775807 := by have := h0.1; unfold maxLen at this; omega
 have w : wrap64 (1048576 - (seed.size : Int)) = 1048576 - (seed.size : Int) := w64 (by omega) (by omega)
 have sz : laws_szSigner.f seed u 1048576 = some (if 1048576 - (seed.size : Int) < 0 then -1 else 1048576 - (seed.size : Int)) := by
  unfold laws_szSigner.f
  rw [w]
  by_cases c : 1048576 - (seed.size : Int) < 0
  ·rw [if_pos c, if_pos c]
  ·rw [if_neg c, if_neg c]
 have tA : laws_toSigner.f seed u = some (seed, u) := rfl
 by_cases c1 : 1048576 - (seed.size : Int) < 0
 ·rw [if_pos c1] at sz
  exact ev_const sz (ev_pos (by omega) (Ev.now _))
 rw [if_neg c1] at sz
 have hS := sealS seed u text
 have hI := sealI seed u text
 obtain ⟨l1, l2⟩ := sealM_len seed u text
 have aux : ∀ (R : SealAns), R.2.2.2.1.length ≤ 11 → R.2.2.2.2.1.length ≤ 3 → Ev (fun k => spec_SealText.f k seed u text) R → Ev (fun k => impl_SealText.f k seed u text) R → Ev (fun k => (laws_toSigner.f seed u).bind fun bt320 => ((spec_SealText.f k bt320.1 bt320.2 text).bind fun bt322 => ((laws_toSigner.f seed u).bind fun bt334 => ((impl_SealText.f k bt334.1 bt334.2 text).bind fun bt336 => ((laws_eqSigner.f bt336.1 bt336.2.1 bt322.1 bt322.2.1).bind fun t348 => (if t348 = true then ((laws_eqSeal.f k bt336.2.2.1 bt336.2.2.2.1 bt336.2.2.2.2.1 bt322.2.2.1 bt322.2.2.2.1 bt322.2.2.2.2.1).bind fun t349 => (if t349 = true then (laws_FnExactSealText.j0 k text bt322.2.2.2.2.2 (bt336.2.2.2.2.2 != bt322.2.2.2.2.2) seed u bt322.1 bt322.2.1 bt322.2.2.1 bt322.2.2.2.1 bt322.2.2.2.2.1 bt336.2.2.1 bt336.2.2.2.1 bt336.2.2.2.2.1) else (laws_FnExactSealText.j0 k text bt322.2.2.2.2.2 true seed u bt322.1 bt322.2.1 bt322.2.2.1 bt322.2.2.2.1 bt322.2.2.2.2.1 bt336.2.2.1 bt336.2.2.2.1 bt336.2.2.2.2.1))) else (laws_FnExactSealText.j0 k text bt322.2.2.2.2.2 true seed u bt322.1 bt322.2.1 bt322.2.2.1 bt322.2.2.2.1 bt322.2.2.2.2.1 bt336.2.2.1 bt336.2.2.2.1 bt336.2.2.2.2.1))))))) true := by
  rintro ⟨s1, u1, no, A, B, ok⟩ hA hB hS hI
  dsimp only at hA hB
  have eS : laws_eqSigner.f s1 u1 s1 u1 = some true := by unfold laws_eqSigner.f; rw [if_pos rfl, if_pos rfl]
  have eQ : Ev (fun k => laws_eqSeal.f k no A B no A B) true := ev_pos rfl (ev_bind (eqS_yes A (by omega)) (ev_pos rfl (ev_bind (eqS_yes B (by omega)) (ev_pos rfl (Ev.now _)))))
  have m1 := markS A 1 (by omega) (by omega)
  have m2 := markS B (1 + A.length) (by omega) (by omega)
  have g1 := heldS A.length 1 (by omega) (by omega)
  have g2 := heldS B.length (1 + A.length) (by omega) (by omega)
  have mk : Ev (fun k => laws_markSeal.f k no A B 1) (((1 + A.length + B.length : Nat) : Int), marks 1 A.length, marks (1 + A.length) B.length) := ev_bind m1 (ev_bind m2 (Ev.now _))
  have hd : Ev (fun k => laws_heldSeal.f k no (marks 1 A.length) (marks (1 + A.length) B.length) 1) ((1 + A.length + B.length : Nat) : Int) := ev_bind g1 (ev_neg (by omega) (ev_bind g2 (ev_neg (by omega) (Ev.now _))))
  refine ev_const rfl (ev_bind hS (ev_const rfl (ev_bind hI (ev_const eS (ev_pos rfl (ev_bind eQ (ev_pos rfl ?_)))))))
  simp only [bne_self_eq_false]
  refine Ev.step (f := fun k => _) (fun k => by simp only [laws_FnExactSealText.j0]; rfl) ?_
  refine ev_neg (by simp) (ev_bind mk (ev_bind hd (ev_neg (by omega) (ev_pos rfl (ev_const rfl (ev_bind hI (ev_const eS (ev_pos rfl (ev_bind eQ (ev_pos rfl ?_))))))))))
  simp only [bne_self_eq_false]
  refine Ev.step (f := fun k => _) (fun k => by simp only [laws_FnExactSealText.j1]; rfl) ?_
  exact ev_neg (by simp) (ev_bind hd (ev_neg (by omega) (ev_pos rfl (Ev.now _))))
 exact ev_const sz (ev_neg (by omega) (aux _ l1 l2 hS hI))
end Go.Proofs.Ytmfipefpmjcddaa.Pure
end
section
namespace Go.Proofs.Ytmfipefpmjcddaa.RO
open Go.RowKit Go.Proofs.YtmfipefpmjcddaaW.PrintWords Go.ChangeShapes Go.WideShapes
set_option linter.unusedVariables false
def Opn (P : Program) (W : World) (e : TypeId) {α : Type} (d : Kd α) (G : α → Prop) : Prop :=
 ∀ {H : Type} {enc : TypeId × Value → H} {base : Nat} {spare : Nat → Bool} {held : Bool} {n : Nat} {cs : List Value} {x : DataW H × List MemPlace},
  DataW.trod enc P W base spare held n e cs = some x → ∃ y : α, d.K W y cs ∧ G y
section
variable {P : Program} {W : World} {e t : TypeId}
theorem op_string (he : P.underlying e = some .string) : Opn P W e Kd.string (fun s => s.size ≤ maxLen) := by
 intro H enc base spare held n cs x h
 obtain ⟨s, rfl, _, hs⟩ := DataW.trod_string he h
 exact ⟨s, rfl, hs⟩
theorem op_int {k : IntKind} (he : P.underlying e = some (.int k)) : Opn P W e (Kd.int k) (fun n => (Lit.int k n).wf = true) := by
 intro H enc base spare held n cs x h
 obtain ⟨m, rfl, _, hs⟩ := DataW.trod_int he h
 exact ⟨m, rfl, hs⟩
def OpAt (P : Program) (W : World) (fs : List (TypeId × Nat)) (off : Nat) {α : Type} (d : Kd α) (G : α → Prop) : Prop :=
 ∀ {H : Type} {enc : TypeId × Value → H} {base : Nat} {spare : Nat → Bool} {held : Bool} {n : Nat} {cs : List Value}, cs.length = off + d.sz →
  (∀ f ∈ fs, ∃ x, DataW.trod enc P W base spare held n f.1 ((cs.drop f.2).take (P.cellsOf f.1)) = some x) → ∃ y : α, d.K W y (cs.drop off) ∧ G y
theorem opAt_one {off : Nat} {α : Type} {d : Kd α} {G : α → Prop} (hc : P.cellsOf e = d.sz) (h : Opn P W e d G) : OpAt P W [(e, off)] off d G := by
 intro H enc base spare held n cs hl hf
 obtain ⟨x, hx⟩ := hf (e, off) (List.mem_singleton.2 rfl)
 dsimp only at hx
 rw [hc, List.take_of_length_le (by rw [List.length_drop]; omega)] at hx
 exact h hx
theorem opAt_cons {off : Nat} {fs : List (TypeId × Nat)} {α β : Type} {d1 : Kd α} {d2 : Kd β} {G1 : α → Prop} {G2 : β → Prop} (hc : P.cellsOf e = d1.sz) (h1 : Opn P W e d1 G1) (h2 : OpAt P W fs (off + d1.sz) d2 G2) :
  OpAt P W ((e, off) :: fs) off (Kd.pair d1 d2) (fun y => G1 y.1 ∧ G2 y.2) := by
 intro H enc base spare held n cs hl hf
 have hl' : cs.length = off + (d1.sz + d2.sz) := hl
 obtain ⟨x, hx⟩ := hf (e, off) List.mem_cons_self
 dsimp only at hx
 rw [hc] at hx
 obtain ⟨y1, hk1, hg1⟩ := h1 hx
 obtain ⟨y2, hk2, hg2⟩ := h2 (cs := cs) (by omega) (fun f hf' => hf f (List.mem_cons_of_mem _ hf'))
 refine ⟨(y1, y2), ⟨(cs.drop off).take d1.sz, cs.drop (off + d1.sz), ?_, hk1, hk2⟩, hg1, hg2⟩
 rw [← List.drop_drop, List.take_append_drop]
theorem op_struct {fs : Array Field} {L : List (TypeId × Nat)} {α β : Type} {d : Kd α} {f : β → α} {g : α → β} {G : α → Prop} (ht : P.underlying t = some (.struct fs)) (hL : fs.toList.map (fun f => (f.type, f.offset)) = L) (hc : P.cellsOf t = d.sz) (hfg : ∀ y, f (g y) = y)
  (h : OpAt P W L 0 d G) : Opn P W t (Kd.iso d f) (fun x => G (f x)) := by
 intro H enc base spare held n cs x hx
 obtain ⟨xs, m, _, _, hl, hxl, hf⟩ := DataW.trod_struct ht hx
 obtain ⟨y, hk, hg⟩ := h (cs := cs) (n := m) (enc := enc) (base := base) (spare := spare) (held := held) (by rw [hl, hc]; omega) (fun q hq => by
  rw [← hL] at hq
  obtain ⟨fd, hfd, rfl⟩ := List.mem_map.1 hq
  obtain ⟨i, hi⟩ := List.getElem?_of_mem hfd
  rw [Array.getElem?_toList] at hi
  have hlt : i < xs.length := by
   have := (Array.getElem?_eq_some_iff.1 hi).1
   omega
  exact ⟨xs[i], by rw [hf i fd hi]; exact List.getElem?_eq_getElem hlt⟩)
 rw [List.drop_zero] at hk
 refine ⟨g y, ?_, ?_⟩
 ·show d.K W (f (g y)) cs
  rw [hfg]; exact hk
 ·show G (f (g y))
  rw [hfg]; exact hg
theorem op_struct0 {fs : Array Field} {L : List (TypeId × Nat)} {α : Type} {d : Kd α} {G : α → Prop} (ht : P.underlying t = some (.struct fs)) (hL : fs.toList.map (fun f => (f.type, f.offset)) = L) (hc : P.cellsOf t = d.sz)
  (h : OpAt P W L 0 d G) : Opn P W t d G := by
 intro H enc base spare held n cs x hx
 exact op_struct (d := d) (f := fun y : α => y) (g := fun y => y) ht hL hc (fun _ => rfl) h hx
end
theorem agg_of_cells {v : Value} {l : List Value} (h : v.cells.toList = l) (hl : 2 ≤ l.length) : v = .agg l.toArray := by
 cases v <;> simp only [Value.cells] at h
 case agg cs => subst h; simp
 all_goals (subst h; simp at hl)
end Go.Proofs.Ytmfipefpmjcddaa.RO
end
