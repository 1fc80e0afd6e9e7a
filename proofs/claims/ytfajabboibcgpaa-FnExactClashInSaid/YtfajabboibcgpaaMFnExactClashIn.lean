/- For the law FnExactClashIn: what it needs of the words, of the printed functions and of the plain laws, in few texts (laid by merge.py of this workplace). -/
import Derived.Test.YtfajabboibcgpaaMFnExactClashInd
import Derived.Test.YtfajabboibcgpaaRows
import Derived.WalkKit
import Derived.ProofKit
import Derived.OpenShut
import Derived.ShutString
import Derived.ChangeOld
import Derived.Below
import Derived.SizedLaws
namespace Go.Proofs.Ytfajabboibcgpaa.fnExactClashIn
open Go.ChangeShapes Go.WideShapes Go.ChangeAt Go.RowKit Go.Proofs.Ytfajabboibcgpaa.RO Go.Proofs.Ytfajabboibcgpaa.PA Go.Proofs.YtfajabboibcgpaaW.PrintWords
open Go.ChangeMaps (open_string shut_string)
set_option linter.unusedVariables false
theorem own : ownKnob Try.prog.godebug = none := by kernel_rfl
theorem laidOut : laidOutB Try.prog = true := by kernel_rfl
set_option maxRecDepth 100000 in
theorem lifted (os : Os) (started : os.Started) (H : Type) (enc : TypeId × Value → H) :
    ReturnsInHanded {} Try.checked os 7 .any (Rows.fnExactClashInSpec.pre6 enc Try.prog Try.f7 Rows.fnExactClashInRow.domain false) (Rows.fnExactClashInSpec.post enc Try.prog Try.f7 false true false false) := by
  refine returnsInHanded_of_change_sized (C := Try.checked) own started (by kernel_rfl) Try.func7
    (ChangeSpec.witness6 (enc := enc) (C := Try.checked) false ⟨#[], #[.slice none 0 0, .slice none 0 0], []⟩ 8 (by kernel_rfl) (by kernel_rfl) (by kernel_rfl) (by kernel_rfl)) ?_
  intro W base args ds gs before hval0 hW hcnd hsz0 _
  have hval : ∀ (j : Nat) t v, Try.f7.params[j]? = some t → args[j]? = some v → Value.okWide Try.prog W .any base t v := hval0
  have hW' := hW
  obtain ⟨p, q, hA0, hV, rfl, hfz, hnd⟩ := hW
  have hA : DataW.TrodAll enc Try.prog W 0 (fun _ => true) true Try.f7.params.toList args.toList ds p := hA0
  rw [Try.params7] at hA hval
  obtain ⟨v0, vs0, d0, ds0, p0, q0, hargs, rfl, rfl, h0, r0⟩ := trodAll_cons hA
  obtain ⟨v1, vs1, d1, ds1, p1, q1, rfl, rfl, rfl, h1, r1⟩ := trodAll_cons r0
  obtain ⟨rfl, rfl, rfl⟩ := trodAll_nil r1
  obtain rfl : args = #[v0, v1] := by cases args; simp_all
  obtain ⟨rfl, rfl⟩ := trodVars_none hV
  have k0 := h0
  have lt0 : ∀ x ∈ p0, x.block < W.heap.size := by obtain ⟨m, hm⟩ := k0; exact DataW.trod_lt m _ _ _ hm
  obtain ⟨a0, len0, cap0, rfl⟩ := okWide_slice Try.underlying54 (hval 0 54 v0 rfl rfl)
  obtain ⟨fu0, hf0⟩ := h0
  have o0 : Opn Try.prog W 54 ((Kd.slice 142 k142) : Kd _) _ := (op_slice Try.underlying54 (by kernel_rfl) (op_struct (d := (Kd.pair Kd.string (Kd.pair Kd.string (Kd.slice 9 Kd.string)))) (f := fun x : S142 => (x.f0, x.f1, x.f2)) (g := fun y => (⟨y.1, y.2.1, y.2.2⟩ : S142)) Try.underlying142 (by rfl) (by kernel_rfl) (fun _ => rfl) (opAt_cons (by kernel_rfl) (op_string Try.underlying9) (opAt_cons (by kernel_rfl) (op_string Try.underlying9) (opAt_one (by kernel_rfl) (op_slice Try.underlying45 (by kernel_rfl) (op_string Try.underlying9)))))))
  obtain ⟨y0, hk0, hg0⟩ := o0 hf0
  obtain ⟨cs0, hcs0, hq0⟩ : ∃ l : List Value, Value.cells (.slice a0 len0 cap0) = l.toArray ∧ ((Kd.slice 142 k142) : Kd _).K W y0 l := ⟨_, by simp, hk0⟩
  clear hk0
  obtain ⟨A0, c0, rfl, hl0, hC0⟩ := hq0
  simp [Value.cells] at hcs0
  obtain ⟨rfl, rfl, rfl⟩ := hcs0
  have k1 := h1
  have lt1 : ∀ x ∈ p1, x.block < W.heap.size := by obtain ⟨m, hm⟩ := k1; exact DataW.trod_lt m _ _ _ hm
  obtain ⟨a1, len1, cap1, rfl⟩ := okWide_slice Try.underlying54 (hval 1 54 v1 rfl rfl)
  obtain ⟨fu1, hf1⟩ := h1
  have o1 : Opn Try.prog W 54 ((Kd.slice 142 k142) : Kd _) _ := (op_slice Try.underlying54 (by kernel_rfl) (op_struct (d := (Kd.pair Kd.string (Kd.pair Kd.string (Kd.slice 9 Kd.string)))) (f := fun x : S142 => (x.f0, x.f1, x.f2)) (g := fun y => (⟨y.1, y.2.1, y.2.2⟩ : S142)) Try.underlying142 (by rfl) (by kernel_rfl) (fun _ => rfl) (opAt_cons (by kernel_rfl) (op_string Try.underlying9) (opAt_cons (by kernel_rfl) (op_string Try.underlying9) (opAt_one (by kernel_rfl) (op_slice Try.underlying45 (by kernel_rfl) (op_string Try.underlying9)))))))
  obtain ⟨y1, hk1, hg1⟩ := o1 hf1
  obtain ⟨cs1, hcs1, hq1⟩ : ∃ l : List Value, Value.cells (.slice a1 len1 cap1) = l.toArray ∧ ((Kd.slice 142 k142) : Kd _).K W y1 l := ⟨_, by simp, hk1⟩
  clear hk1
  obtain ⟨A1, c1, rfl, hl1, hC1⟩ := hq1
  simp [Value.cells] at hcs1
  obtain ⟨rfl, rfl, rfl⟩ := hcs1
  clear hA0 hval0 hsz0
  obtain ⟨k, h⟩ := Pure.FnExactClashIn (y0) (y1) hg0 hg1
  refine (PA.laws_FnExactClashIn.calls k _ _ (y0) _ _ (y1) true W hC0 hl0 hC1 hl1 h).mono fun e W' ⟨he, bel0⟩ => ?_
  have bel : Below W.heap.size W W' := bel0
  subst he
  exact ⟨_, rfl, _, _, _, [], _, [], hW', trodAll_mk1 (shut_bool Try.underlying4 _), (trodAll_cons_mk (Below.trod laidOut (by kernel_rfl) (of_decide_eq_true (by kernel_rfl)) k0 bel lt0) (trodAll_cons_mk (Below.trod laidOut (by kernel_rfl) (of_decide_eq_true (by kernel_rfl)) k1 bel lt1) trodAll_mk0)), rfl, bel.frame _, fun h => by cases h⟩
theorem over : Rows.fnExactClashInRow.holds Try.pinned (OpenSpec.ofChange Rows.fnExactClashInSpec) :=
  OpenClaim.holds_of_wide 7 Try.f7 rfl rfl rfl rfl rfl rfl rfl ⟨rfl, rfl, rfl, rfl, rfl⟩ rfl rfl rfl rfl rfl (by kernel_rfl) Try.func7 (by kernel_rfl)
    (of_decide_eq_true (by kernel_rfl)) (by unfold Func.isWrapper; first | (rw [if_pos (by decide +kernel)]; kernel_rfl) | (rw [if_neg (by decide +kernel)]; exact ⟨rfl, rfl⟩))
    (fun os started H enc _ => lifted os started H enc)
theorem proved : Rows.FnExactClashInSaid := over
#print axioms proved
end Go.Proofs.Ytfajabboibcgpaa.fnExactClashIn
namespace Go.Proofs.Ytfajabboibcgpaa
theorem fnExactClashIn_holds : Rows.FnExactClashInSaid := fnExactClashIn.proved
end Go.Proofs.Ytfajabboibcgpaa
