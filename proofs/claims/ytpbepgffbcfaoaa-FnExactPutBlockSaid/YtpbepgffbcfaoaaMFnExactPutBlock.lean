/- For the law FnExactPutBlock (laid by merge.py). -/
import Derived.Test.YtpbepgffbcfaoaaMFnExactPutBlockd
import Derived.Test.YtpbepgffbcfaoaaRows
import Derived.WalkKit
import Derived.ProofKit
import Derived.OpenShut
import Derived.ShutString
import Derived.ChangeOld
import Derived.Below
import Derived.SizedLaws
namespace Go.Proofs.Ytpbepgffbcfaoaa.fnExactPutBlock
open Go.ChangeShapes Go.WideShapes Go.ChangeAt Go.RowKit Go.Proofs.Ytpbepgffbcfaoaa.RO Go.Proofs.Ytpbepgffbcfaoaa.PA Go.Proofs.YtpbepgffbcfaoaaW.PrintWords
open Go.ChangeMaps (open_string shut_string)
set_option linter.unusedVariables false
theorem own : ownKnob Try.prog.godebug = none := by kernel_rfl
theorem laidOut : laidOutB Try.prog = true := by kernel_rfl
set_option maxRecDepth 100000 in
theorem lifted (os : Os) (started : os.Started) (H : Type) (enc : TypeId × Value → H) :
    ReturnsInHanded {} Try.checked os 3 .any (Rows.fnExactPutBlockSpec.pre6 enc Try.prog Try.f3 Rows.fnExactPutBlockRow.domain false) (Rows.fnExactPutBlockSpec.post enc Try.prog Try.f3 false true false false) := by
  refine returnsInHanded_of_change_sized (C := Try.checked) own started (by kernel_rfl) Try.func3
    (ChangeSpec.witness6 (enc := enc) (C := Try.checked) false ⟨#[], #[.slice none 0 0, .string ByteArray.empty, .slice none 0 0], []⟩ 8 (by kernel_rfl) (by kernel_rfl) (by kernel_rfl) (by kernel_rfl)) ?_
  intro W base args ds gs before hval0 hW hcnd hsz0 _
  have hval : ∀ (j : Nat) t v, Try.f3.params[j]? = some t → args[j]? = some v → Value.okWide Try.prog W .any base t v := hval0
  have hW' := hW
  obtain ⟨p, q, hA0, hV, rfl, hfz, hnd⟩ := hW
  have hA : DataW.TrodAll enc Try.prog W 0 (fun _ => true) true Try.f3.params.toList args.toList ds p := hA0
  rw [Try.params3] at hA hval
  obtain ⟨v0, vs0, d0, ds0, p0, q0, hargs, rfl, rfl, h0, r0⟩ := trodAll_cons hA
  obtain ⟨v1, vs1, d1, ds1, p1, q1, rfl, rfl, rfl, h1, r1⟩ := trodAll_cons r0
  obtain ⟨v2, vs2, d2, ds2, p2, q2, rfl, rfl, rfl, h2, r2⟩ := trodAll_cons r1
  obtain ⟨rfl, rfl, rfl⟩ := trodAll_nil r2
  obtain rfl : args = #[v0, v1, v2] := by cases args; simp_all
  obtain ⟨rfl, rfl⟩ := trodVars_none hV
  have k0 := h0
  have lt0 : ∀ x ∈ p0, x.block < W.heap.size := by obtain ⟨m, hm⟩ := k0; exact DataW.trod_lt m _ _ _ hm
  obtain ⟨a0, len0, cap0, rfl⟩ := okWide_slice Try.underlying22 (hval 0 22 v0 rfl rfl)
  obtain ⟨fu0, hf0⟩ := h0
  have o0 : Opn Try.prog W 22 ((Kd.slice 50 k50) : Kd _) _ := (op_slice Try.underlying22 (by kernel_rfl) (op_struct (d := (Kd.pair Kd.string (Kd.pair Kd.string (Kd.slice 9 Kd.string)))) (f := fun x : S50 => (x.f0, x.f1, x.f2)) (g := fun y => (⟨y.1, y.2.1, y.2.2⟩ : S50)) Try.underlying50 (by rfl) (by kernel_rfl) (fun _ => rfl) (opAt_cons (by kernel_rfl) (op_string Try.underlying9) (opAt_cons (by kernel_rfl) (op_string Try.underlying9) (opAt_one (by kernel_rfl) (op_slice Try.underlying23 (by kernel_rfl) (op_string Try.underlying9)))))))
  obtain ⟨y0, hk0, hg0⟩ := o0 hf0
  obtain ⟨cs0, hcs0, hq0⟩ : ∃ l : List Value, Value.cells (.slice a0 len0 cap0) = l.toArray ∧ ((Kd.slice 50 k50) : Kd _).K W y0 l := ⟨_, by simp, hk0⟩
  clear hk0
  obtain ⟨A0, c0, rfl, hl0, hC0⟩ := hq0
  simp [Value.cells] at hcs0
  obtain ⟨rfl, rfl, rfl⟩ := hcs0
  obtain ⟨a1, rfl, rfl, rfl, hg1⟩ := open_string Try.underlying9 (hval 1 9 v1 rfl rfl) h1
  have k2 := h2
  have lt2 : ∀ x ∈ p2, x.block < W.heap.size := by obtain ⟨m, hm⟩ := k2; exact DataW.trod_lt m _ _ _ hm
  obtain ⟨a2, len2, cap2, rfl⟩ := okWide_slice Try.underlying23 (hval 2 23 v2 rfl rfl)
  obtain ⟨fu2, hf2⟩ := h2
  have o2 : Opn Try.prog W 23 ((Kd.slice 9 Kd.string) : Kd _) _ := (op_slice Try.underlying23 (by kernel_rfl) (op_string Try.underlying9))
  obtain ⟨y2, hk2, hg2⟩ := o2 hf2
  obtain ⟨cs2, hcs2, hq2⟩ : ∃ l : List Value, Value.cells (.slice a2 len2 cap2) = l.toArray ∧ ((Kd.slice 9 Kd.string) : Kd _).K W y2 l := ⟨_, by simp, hk2⟩
  clear hk2
  obtain ⟨A2, c2, rfl, hl2, hC2⟩ := hq2
  simp [Value.cells] at hcs2
  obtain ⟨rfl, rfl, rfl⟩ := hcs2
  clear hA0 hval0 hsz0
  obtain ⟨k, h⟩ := Pure.FnExactPutBlock (y0) a1 (y2) hg0 hg1 hg2
  refine (PA.laws_FnExactPutBlock.calls k _ _ (y0) a1 _ _ (y2) true W hC0 hl0 hC2 hl2 h ⟨rfl⟩).mono fun e W' ⟨he, bel0⟩ => ?_
  have bel : Below W.heap.size W W' := bel0
  subst he
  exact ⟨_, rfl, _, _, _, [], _, [], hW', trodAll_mk1 (shut_bool Try.underlying4 _), (trodAll_cons_mk (Below.trod laidOut (by kernel_rfl) (of_decide_eq_true (by kernel_rfl)) k0 bel lt0) (trodAll_cons_mk (shut_string Try.underlying9 hg1) (trodAll_cons_mk (Below.trod laidOut (by kernel_rfl) (of_decide_eq_true (by kernel_rfl)) k2 bel lt2) trodAll_mk0))), rfl, bel.frame _, fun h => by cases h⟩
theorem over : Rows.fnExactPutBlockRow.holds Try.pinned (OpenSpec.ofChange Rows.fnExactPutBlockSpec) :=
  OpenClaim.holds_of_wide 3 Try.f3 rfl rfl rfl rfl rfl rfl rfl ⟨rfl, rfl, rfl, rfl, rfl⟩ rfl rfl rfl rfl rfl (by kernel_rfl) Try.func3 (by kernel_rfl)
    (of_decide_eq_true (by kernel_rfl)) (by unfold Func.isWrapper; first | (rw [if_pos (by decide +kernel)]; kernel_rfl) | (rw [if_neg (by decide +kernel)]; exact ⟨rfl, rfl⟩))
    (fun os started H enc _ => lifted os started H enc)
theorem proved : Rows.FnExactPutBlockSaid := over
#print axioms proved
end Go.Proofs.Ytpbepgffbcfaoaa.fnExactPutBlock
namespace Go.Proofs.Ytpbepgffbcfaoaa
theorem fnExactPutBlock_holds : Rows.FnExactPutBlockSaid := fnExactPutBlock.proved
end Go.Proofs.Ytpbepgffbcfaoaa
