/- For all inputs the law FnExactPublicFrom answers true, and each argument reads behind the call as it read ahead of it. No condition. -/
import Derived.Test.YtleegjkloclolaaRows
import Derived.Test.YtleegjkloclolaaPAx23
import Derived.Test.YtleegjkloclolaaPureFnExactPublicFrom
import Derived.Test.YtleegjkloclolaaRO
import Derived.WalkKit
import Derived.ProofKit
import Derived.OpenShut
import Derived.ShutString
import Derived.ChangeOld
import Derived.Below
import Derived.SizedLaws
namespace Go.Proofs.Ytleegjkloclolaa.fnExactPublicFrom
open Go.ChangeShapes Go.WideShapes Go.ChangeAt Go.RowKit Go.Proofs.Ytleegjkloclolaa.RO Go.Proofs.Ytleegjkloclolaa.PA Go.Proofs.YtleegjkloclolaaW.PrintWords
open Go.ChangeMaps (open_string shut_string)
set_option linter.unusedVariables false
theorem own : ownKnob Try.prog.godebug = none := by kernel_rfl
theorem laidOut : laidOutB Try.prog = true := by kernel_rfl
set_option maxRecDepth 100000 in
theorem lifted (os : Os) (started : os.Started) (H : Type) (enc : TypeId × Value → H) :
    ReturnsInHanded {} Try.checked os 7 .any (Rows.fnExactPublicFromSpec.pre6 enc Try.prog Try.f7 Rows.fnExactPublicFromRow.domain false) (Rows.fnExactPublicFromSpec.post enc Try.prog Try.f7 false true false false) := by
  refine returnsInHanded_of_change_sized (C := Try.checked) own started (by kernel_rfl) Try.func7
    (ChangeSpec.witness6 (enc := enc) (C := Try.checked) false ⟨#[], #[.string ByteArray.empty, .slice none 0 0], []⟩ 8 (by kernel_rfl) (by kernel_rfl) (by kernel_rfl) (by kernel_rfl)) ?_
  intro W base args ds gs before hval0 hW hcnd hsz0 _
  have hval : ∀ (j : Nat) t v, Try.f7.params[j]? = some t → args[j]? = some v → Value.okWide Try.prog W .any base t v := hval0
  have hW' := hW
  obtain ⟨p, q, hA0, hV, rfl, hfz, hnd⟩ := hW
  have hA : DataW.TrodAll enc Try.prog W 0 (fun _ => true) true Try.f7.params.toList args.toList ds p := hA0
  rw [Try.params7] at hA hval
  obtain ⟨v0, vs0, d0, ds0, p0, q0, hargs, rfl, rfl, h0, r0⟩ := trodAll_cons hA
  obtain ⟨v1, vs1, d1, ds1, p1, q1, rfl, rfl, rfl, h1, r1⟩ := trodAll_cons r0
  obtain ⟨rfl, rfl, rfl⟩ := trodAll_nil r1
  obtain rfl : args = #[v0, v1] := by cases args; simp_all
  obtain ⟨rfl, rfl⟩ := trodVars_none hV
  obtain ⟨a0, rfl, rfl, rfl, hg0⟩ := open_string Try.underlying9 (hval 0 9 v0 rfl rfl) h0
  have k1 := h1
  have lt1 : ∀ x ∈ p1, x.block < W.heap.size := by obtain ⟨m, hm⟩ := k1; exact DataW.trod_lt m _ _ _ hm
  obtain ⟨a1, len1, cap1, rfl⟩ := okWide_slice Try.underlying22 (hval 1 22 v1 rfl rfl)
  obtain ⟨fu1, hf1⟩ := h1
  have o1 : Opn Try.prog W 22 ((Kd.slice 9 Kd.string) : Kd _) _ := (op_slice Try.underlying22 (by kernel_rfl) (op_string Try.underlying9))
  obtain ⟨y1, hk1, hg1⟩ := o1 hf1
  obtain ⟨cs1, hcs1, hq1⟩ : ∃ l : List Value, Value.cells (.slice a1 len1 cap1) = l.toArray ∧ ((Kd.slice 9 Kd.string) : Kd _).K W y1 l := ⟨_, by simp, hk1⟩
  clear hk1
  obtain ⟨A1, c1, rfl, hl1, hC1⟩ := hq1
  simp [Value.cells] at hcs1
  obtain ⟨rfl, rfl, rfl⟩ := hcs1
  clear hA0 hval0 hsz0
  obtain ⟨k, h⟩ := Pure.FnExactPublicFrom a0 (y1) hg0 hg1
  refine (PA.laws_FnExactPublicFrom.calls k a0 _ _ (y1) true W hC1 hl1 h).mono fun e W' ⟨he, bel0⟩ => ?_
  have bel : Below W.heap.size W W' := bel0
  subst he
  exact ⟨_, rfl, _, _, _, [], _, [], hW', trodAll_mk1 (shut_bool Try.underlying4 _), (trodAll_cons_mk (shut_string Try.underlying9 hg0) (trodAll_cons_mk (Below.trod laidOut (by kernel_rfl) (of_decide_eq_true (by kernel_rfl)) k1 bel lt1) trodAll_mk0)), rfl, bel.frame _, fun h => by cases h⟩
theorem over : Rows.fnExactPublicFromRow.holds Try.pinned (OpenSpec.ofChange Rows.fnExactPublicFromSpec) :=
  OpenClaim.holds_of_wide 7 Try.f7 rfl rfl rfl rfl rfl rfl rfl ⟨rfl, rfl, rfl, rfl, rfl⟩ rfl rfl rfl rfl rfl (by kernel_rfl) Try.func7 (by kernel_rfl)
    (of_decide_eq_true (by kernel_rfl)) (by unfold Func.isWrapper; first | (rw [if_pos (by decide +kernel)]; kernel_rfl) | (rw [if_neg (by decide +kernel)]; exact ⟨rfl, rfl⟩))
    (fun os started H enc _ => lifted os started H enc)
theorem proved : Rows.FnExactPublicFromSaid := over
#print axioms proved
end Go.Proofs.Ytleegjkloclolaa.fnExactPublicFrom
namespace Go.Proofs.Ytleegjkloclolaa
/-- The row, under a short name, for the claim. -/
theorem fnExactPublicFrom_holds : Rows.FnExactPublicFromSaid := fnExactPublicFrom.proved
end Go.Proofs.Ytleegjkloclolaa
