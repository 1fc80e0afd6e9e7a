/- For the law FnExactBlockDigest: what it needs of the words, of the printed functions and of the plain laws, in few texts (laid by merge.py of this workplace). -/
import Derived.Test.YtleegjkloclolaaMFnExactBlockDigestc
import Derived.Test.YtleegjkloclolaaRows
import Derived.WalkKit
import Derived.ProofKit
import Derived.OpenShut
import Derived.ShutString
import Derived.ChangeOld
import Derived.Below
import Derived.SizedLaws
namespace Go.Proofs.Ytleegjkloclolaa.fnExactBlockDigest
open Go.ChangeShapes Go.WideShapes Go.ChangeAt Go.RowKit Go.Proofs.Ytleegjkloclolaa.RO Go.Proofs.Ytleegjkloclolaa.PA Go.Proofs.YtleegjkloclolaaW.PrintWords
open Go.ChangeMaps (open_string shut_string)
set_option linter.unusedVariables false
theorem own : ownKnob Try.prog.godebug = none := by kernel_rfl
theorem laidOut : laidOutB Try.prog = true := by kernel_rfl
set_option maxRecDepth 100000 in
theorem lifted (os : Os) (started : os.Started) (H : Type) (enc : TypeId × Value → H) :
    ReturnsInHanded {} Try.checked os 5 .any (Rows.fnExactBlockDigestSpec.pre6 enc Try.prog Try.f5 Rows.fnExactBlockDigestRow.domain false) (Rows.fnExactBlockDigestSpec.post enc Try.prog Try.f5 false true false false) := by
  refine returnsInHanded_of_change_sized (C := Try.checked) own started (by kernel_rfl) Try.func5
    (ChangeSpec.witness6 (enc := enc) (C := Try.checked) false ⟨#[], #[.agg #[.string ByteArray.empty, .string ByteArray.empty, .slice none 0 0]], []⟩ 8 (by kernel_rfl) (by kernel_rfl) (by kernel_rfl) (by kernel_rfl)) ?_
  intro W base args ds gs before hval0 hW hcnd hsz0 _
  have hval : ∀ (j : Nat) t v, Try.f5.params[j]? = some t → args[j]? = some v → Value.okWide Try.prog W .any base t v := hval0
  have hW' := hW
  obtain ⟨p, q, hA0, hV, rfl, hfz, hnd⟩ := hW
  have hA : DataW.TrodAll enc Try.prog W 0 (fun _ => true) true Try.f5.params.toList args.toList ds p := hA0
  rw [Try.params5] at hA hval
  obtain ⟨v0, vs0, d0, ds0, p0, q0, hargs, rfl, rfl, h0, r0⟩ := trodAll_cons hA
  obtain ⟨rfl, rfl, rfl⟩ := trodAll_nil r0
  obtain rfl : args = #[v0] := by cases args; simp_all
  obtain ⟨rfl, rfl⟩ := trodVars_none hV
  have k0 := h0
  have lt0 : ∀ x ∈ p0, x.block < W.heap.size := by obtain ⟨m, hm⟩ := k0; exact DataW.trod_lt m _ _ _ hm
  obtain ⟨fu0, hf0⟩ := h0
  have o0 : Opn Try.prog W 38 ((Kd.pair Kd.string (Kd.pair Kd.string (Kd.slice 9 Kd.string))) : Kd _) _ := (op_struct0 Try.underlying38 (by rfl) (by kernel_rfl) (opAt_cons (by kernel_rfl) (op_string Try.underlying9) (opAt_cons (by kernel_rfl) (op_string Try.underlying9) (opAt_one (by kernel_rfl) (op_slice Try.underlying22 (by kernel_rfl) (op_string Try.underlying9))))))
  obtain ⟨y0, hk0, hg0⟩ := o0 hf0
  obtain ⟨cs0, hcs0, hq0⟩ : ∃ l : List Value, Value.cells (v0) = l.toArray ∧ ((Kd.pair Kd.string (Kd.pair Kd.string (Kd.slice 9 Kd.string))) : Kd _).K W y0 l := ⟨_, by simp, hk0⟩
  clear hk0
  obtain ⟨cs0_0, rs0_0, rfl, hk0_0, hr0_0⟩ := hq0
  obtain rfl : cs0_0 = [.string y0.1] := hk0_0
  obtain ⟨cs0_1, rs0_1, rfl, hk0_1, hr0_1⟩ := hr0_0
  obtain rfl : cs0_1 = [.string y0.2.1] := hk0_1
  obtain ⟨A0_2, c0_2, rfl, hl0_2, hC0_2⟩ := hr0_1
  obtain rfl : v0 = .agg #[.string y0.1, .string y0.2.1, .slice A0_2 (y0.2.2).length c0_2] := agg_of_cells (l := [.string y0.1, .string y0.2.1, .slice A0_2 (y0.2.2).length c0_2]) (by rw [hcs0]; rfl) (Nat.le_of_ble_eq_true rfl)
  clear hcs0
  clear hA0 hval0 hsz0
  obtain ⟨k, h⟩ := Pure.FnExactBlockDigest (y0.1) (y0.2.1) (y0.2.2) hg0
  refine (PA.laws_FnExactBlockDigest.calls k (y0.1) (y0.2.1) _ _ (y0.2.2) true W hC0_2 hl0_2 h).mono fun e W' ⟨he, bel0⟩ => ?_
  have bel : Below W.heap.size W W' := bel0
  subst he
  exact ⟨_, rfl, _, _, _, [], _, [], hW', trodAll_mk1 (shut_bool Try.underlying4 _), (trodAll_cons_mk (Below.trod laidOut (by kernel_rfl) (of_decide_eq_true (by kernel_rfl)) k0 bel lt0) trodAll_mk0), rfl, bel.frame _, fun h => by cases h⟩
theorem over : Rows.fnExactBlockDigestRow.holds Try.pinned (OpenSpec.ofChange Rows.fnExactBlockDigestSpec) :=
  OpenClaim.holds_of_wide 5 Try.f5 rfl rfl rfl rfl rfl rfl rfl ⟨rfl, rfl, rfl, rfl, rfl⟩ rfl rfl rfl rfl rfl (by kernel_rfl) Try.func5 (by kernel_rfl)
    (of_decide_eq_true (by kernel_rfl)) (by unfold Func.isWrapper; first | (rw [if_pos (by decide +kernel)]; kernel_rfl) | (rw [if_neg (by decide +kernel)]; exact ⟨rfl, rfl⟩))
    (fun os started H enc _ => lifted os started H enc)
theorem proved : Rows.FnExactBlockDigestSaid := over
#print axioms proved
end Go.Proofs.Ytleegjkloclolaa.fnExactBlockDigest
namespace Go.Proofs.Ytleegjkloclolaa
theorem fnExactBlockDigest_holds : Rows.FnExactBlockDigestSaid := fnExactBlockDigest.proved
end Go.Proofs.Ytleegjkloclolaa
