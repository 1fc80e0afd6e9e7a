/- For the law FnExactPiecesOf (laid by merge.py). -/
import Derived.Test.YtnplghcbdaiogaaMFnExactPiecesOfg
import Derived.Test.YtnplghcbdaiogaaRows
import Derived.WalkKit
import Derived.ProofKit
import Derived.OpenShut
import Derived.ShutString
import Derived.ChangeOld
import Derived.Below
import Derived.SizedLaws
namespace Go.Proofs.Ytnplghcbdaiogaa.fnExactPiecesOf
open Go.ChangeShapes Go.WideShapes Go.ChangeAt Go.RowKit Go.Proofs.Ytnplghcbdaiogaa.RO Go.Proofs.Ytnplghcbdaiogaa.PA Go.Proofs.YtnplghcbdaiogaaW.PrintWords
open Go.ChangeMaps (open_string shut_string)
set_option linter.unusedVariables false
theorem own : ownKnob Try.prog.godebug = none := by kernel_rfl
theorem laidOut : laidOutB Try.prog = true := by kernel_rfl
set_option maxRecDepth 100000 in
theorem lifted (os : Os) (started : os.Started) (H : Type) (enc : TypeId × Value → H) :
    ReturnsInHanded {} Try.checked os 5 .any (Rows.fnExactPiecesOfSpec.pre6 enc Try.prog Try.f5 Rows.fnExactPiecesOfRow.domain false) (Rows.fnExactPiecesOfSpec.post enc Try.prog Try.f5 false true false false) := by
  refine returnsInHanded_of_change_sized (C := Try.checked) own started (by kernel_rfl) Try.func5
    (ChangeSpec.witness6 (enc := enc) (C := Try.checked) false ⟨#[], #[.agg #[.slice none 0 0], .string ByteArray.empty, .string ByteArray.empty], []⟩ 8 (by kernel_rfl) (by kernel_rfl) (by kernel_rfl) (by kernel_rfl)) ?_
  intro W base args ds gs before hval0 hW hcnd hsz0 _
  have hval : ∀ (j : Nat) t v, Try.f5.params[j]? = some t → args[j]? = some v → Value.okWide Try.prog W .any base t v := hval0
  have hW' := hW
  obtain ⟨p, q, hA0, hV, rfl, hfz, hnd⟩ := hW
  have hA : DataW.TrodAll enc Try.prog W 0 (fun _ => true) true Try.f5.params.toList args.toList ds p := hA0
  rw [Try.params5] at hA hval
  obtain ⟨v0, vs0, d0, ds0, p0, q0, hargs, rfl, rfl, h0, r0⟩ := trodAll_cons hA
  obtain ⟨v1, vs1, d1, ds1, p1, q1, rfl, rfl, rfl, h1, r1⟩ := trodAll_cons r0
  obtain ⟨v2, vs2, d2, ds2, p2, q2, rfl, rfl, rfl, h2, r2⟩ := trodAll_cons r1
  obtain ⟨rfl, rfl, rfl⟩ := trodAll_nil r2
  obtain rfl : args = #[v0, v1, v2] := by cases args; simp_all
  obtain ⟨rfl, rfl⟩ := trodVars_none hV
  have k0 := h0
  have lt0 : ∀ x ∈ p0, x.block < W.heap.size := by obtain ⟨m, hm⟩ := k0; exact DataW.trod_lt m _ _ _ hm
  obtain ⟨fu0, hf0⟩ := h0
  have o0 : Opn Try.prog W 24 ((Kd.slice 87 k87) : Kd _) _ := (op_struct0 Try.underlying24 (by rfl) (by kernel_rfl) (opAt_one (by kernel_rfl) (op_slice Try.underlying22 (by kernel_rfl) (op_struct (d := (Kd.pair (Kd.slice 9 Kd.string) (Kd.pair (Kd.slice 9 Kd.string) (Kd.slice 3 (Kd.int .i64))))) (f := fun x : S87 => (x.f0, x.f1, x.f2)) (g := fun y => (⟨y.1, y.2.1, y.2.2⟩ : S87)) Try.underlying87 (by rfl) (by kernel_rfl) (fun _ => rfl) (opAt_cons (by kernel_rfl) (op_slice Try.underlying41 (by kernel_rfl) (op_string Try.underlying9)) (opAt_cons (by kernel_rfl) (op_slice Try.underlying41 (by kernel_rfl) (op_string Try.underlying9)) (opAt_one (by kernel_rfl) (op_slice Try.underlying44 (by kernel_rfl) (op_int Try.underlying3)))))))))
  obtain ⟨y0, hk0, hg0⟩ := o0 hf0
  obtain ⟨cs0, hcs0, hq0⟩ : ∃ l : List Value, Value.cells (v0) = l.toArray ∧ ((Kd.slice 87 k87) : Kd _).K W y0 l := ⟨_, by simp, hk0⟩
  clear hk0
  obtain ⟨A0_0, c0_0, rfl, hl0_0, hC0_0⟩ := hq0
  obtain rfl : v0 = .agg #[.slice A0_0 (y0).length c0_0] := agg_of_wide (l := [.slice A0_0 (y0).length c0_0]) Try.underlying24 (hval 0 24 v0 rfl rfl) (by rw [hcs0])
  clear hcs0
  obtain ⟨a1, rfl, rfl, rfl, hg1⟩ := open_string Try.underlying9 (hval 1 9 v1 rfl rfl) h1
  obtain ⟨a2, rfl, rfl, rfl, hg2⟩ := open_string Try.underlying9 (hval 2 9 v2 rfl rfl) h2
  clear hA0 hval0 hsz0
  obtain ⟨k, h⟩ := Pure.FnExactPiecesOf (y0) a1 a2 hg0 hg1 hg2
  refine (PA.laws_FnExactPiecesOf.calls k _ _ (y0) a1 a2 true W hC0_0 hl0_0 h ⟨rfl⟩).mono fun e W' ⟨he, bel0⟩ => ?_
  have bel : Below W.heap.size W W' := bel0
  subst he
  exact ⟨_, rfl, _, _, _, [], _, [], hW', trodAll_mk1 (shut_bool Try.underlying4 _), (trodAll_cons_mk (Below.trod laidOut (by kernel_rfl) (of_decide_eq_true (by kernel_rfl)) k0 bel lt0) (trodAll_cons_mk (shut_string Try.underlying9 hg1) (trodAll_cons_mk (shut_string Try.underlying9 hg2) trodAll_mk0))), rfl, bel.frame _, fun h => by cases h⟩
theorem over : Rows.fnExactPiecesOfRow.holds Try.pinned (OpenSpec.ofChange Rows.fnExactPiecesOfSpec) :=
  OpenClaim.holds_of_wide 5 Try.f5 rfl rfl rfl rfl rfl rfl rfl ⟨rfl, rfl, rfl, rfl, rfl⟩ rfl rfl rfl rfl rfl (by kernel_rfl) Try.func5 (by kernel_rfl)
    (of_decide_eq_true (by kernel_rfl)) (by unfold Func.isWrapper; first | (rw [if_pos (by decide +kernel)]; kernel_rfl) | (rw [if_neg (by decide +kernel)]; exact ⟨rfl, rfl⟩))
    (fun os started H enc _ => lifted os started H enc)
theorem proved : Rows.FnExactPiecesOfSaid := over
#print axioms proved
end Go.Proofs.Ytnplghcbdaiogaa.fnExactPiecesOf
namespace Go.Proofs.Ytnplghcbdaiogaa
theorem fnExactPiecesOf_holds : Rows.FnExactPiecesOfSaid := fnExactPiecesOf.proved
end Go.Proofs.Ytnplghcbdaiogaa
