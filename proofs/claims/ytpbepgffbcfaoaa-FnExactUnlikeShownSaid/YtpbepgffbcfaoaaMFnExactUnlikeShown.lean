/- For the law FnExactUnlikeShown (laid by merge.py). -/
import Derived.Test.YtpbepgffbcfaoaaMFnExactUnlikeShowng
import Derived.Test.YtpbepgffbcfaoaaRows
import Derived.WalkKit
import Derived.ProofKit
import Derived.OpenShut
import Derived.ShutString
import Derived.ChangeOld
import Derived.Below
import Derived.SizedLaws
namespace Go.Proofs.Ytpbepgffbcfaoaa.fnExactUnlikeShown
open Go.ChangeShapes Go.WideShapes Go.ChangeAt Go.RowKit Go.Proofs.Ytpbepgffbcfaoaa.RO Go.Proofs.Ytpbepgffbcfaoaa.PA Go.Proofs.YtpbepgffbcfaoaaW.PrintWords
open Go.ChangeMaps (open_string shut_string)
set_option linter.unusedVariables false
theorem own : ownKnob Try.prog.godebug = none := by kernel_rfl
theorem laidOut : laidOutB Try.prog = true := by kernel_rfl
set_option maxRecDepth 100000 in
theorem lifted (os : Os) (started : os.Started) (H : Type) (enc : TypeId × Value → H) :
    ReturnsInHanded {} Try.checked os 4 .any (Rows.fnExactUnlikeShownSpec.pre6 enc Try.prog Try.f4 Rows.fnExactUnlikeShownRow.domain false) (Rows.fnExactUnlikeShownSpec.post enc Try.prog Try.f4 false true false false) := by
  refine returnsInHanded_of_change_sized (C := Try.checked) own started (by kernel_rfl) Try.func4
    (ChangeSpec.witness6 (enc := enc) (C := Try.checked) false ⟨#[], #[.string ByteArray.empty, .string ByteArray.empty, .slice none 0 0, .slice none 0 0], []⟩ 8 (by kernel_rfl) (by kernel_rfl) (by kernel_rfl) (by kernel_rfl)) ?_
  intro W base args ds gs before hval0 hW hcnd hsz0 _
  have hval : ∀ (j : Nat) t v, Try.f4.params[j]? = some t → args[j]? = some v → Value.okWide Try.prog W .any base t v := hval0
  have hW' := hW
  obtain ⟨p, q, hA0, hV, rfl, hfz, hnd⟩ := hW
  have hA : DataW.TrodAll enc Try.prog W 0 (fun _ => true) true Try.f4.params.toList args.toList ds p := hA0
  rw [Try.params4] at hA hval
  obtain ⟨v0, vs0, d0, ds0, p0, q0, hargs, rfl, rfl, h0, r0⟩ := trodAll_cons hA
  obtain ⟨v1, vs1, d1, ds1, p1, q1, rfl, rfl, rfl, h1, r1⟩ := trodAll_cons r0
  obtain ⟨v2, vs2, d2, ds2, p2, q2, rfl, rfl, rfl, h2, r2⟩ := trodAll_cons r1
  obtain ⟨v3, vs3, d3, ds3, p3, q3, rfl, rfl, rfl, h3, r3⟩ := trodAll_cons r2
  obtain ⟨rfl, rfl, rfl⟩ := trodAll_nil r3
  obtain rfl : args = #[v0, v1, v2, v3] := by cases args; simp_all
  obtain ⟨rfl, rfl⟩ := trodVars_none hV
  obtain ⟨a0, rfl, rfl, rfl, hg0⟩ := open_string Try.underlying9 (hval 0 9 v0 rfl rfl) h0
  obtain ⟨a1, rfl, rfl, rfl, hg1⟩ := open_string Try.underlying9 (hval 1 9 v1 rfl rfl) h1
  have k2 := h2
  have lt2 : ∀ x ∈ p2, x.block < W.heap.size := by obtain ⟨m, hm⟩ := k2; exact DataW.trod_lt m _ _ _ hm
  obtain ⟨a2, len2, cap2, rfl⟩ := okWide_slice Try.underlying35 (hval 2 35 v2 rfl rfl)
  obtain ⟨fu2, hf2⟩ := h2
  have o2 : Opn Try.prog W 35 ((Kd.slice 61 k61) : Kd _) _ := (op_slice Try.underlying35 (by kernel_rfl) (op_struct (d := (Kd.pair (Kd.slice 9 Kd.string) (Kd.pair (Kd.slice 9 Kd.string) (Kd.pair (Kd.slice 9 Kd.string) (Kd.int .i64))))) (f := fun x : S61 => (x.f0, x.f1, x.f2, x.f3)) (g := fun y => (⟨y.1, y.2.1, y.2.2.1, y.2.2.2⟩ : S61)) Try.underlying61 (by rfl) (by kernel_rfl) (fun _ => rfl) (opAt_cons (by kernel_rfl) (op_slice Try.underlying23 (by kernel_rfl) (op_string Try.underlying9)) (opAt_cons (by kernel_rfl) (op_slice Try.underlying23 (by kernel_rfl) (op_string Try.underlying9)) (opAt_cons (by kernel_rfl) (op_slice Try.underlying23 (by kernel_rfl) (op_string Try.underlying9)) (opAt_one (by kernel_rfl) (op_int Try.underlying3)))))))
  obtain ⟨y2, hk2, hg2⟩ := o2 hf2
  obtain ⟨cs2, hcs2, hq2⟩ : ∃ l : List Value, Value.cells (.slice a2 len2 cap2) = l.toArray ∧ ((Kd.slice 61 k61) : Kd _).K W y2 l := ⟨_, by simp, hk2⟩
  clear hk2
  obtain ⟨A2, c2, rfl, hl2, hC2⟩ := hq2
  simp [Value.cells] at hcs2
  obtain ⟨rfl, rfl, rfl⟩ := hcs2
  have k3 := h3
  have lt3 : ∀ x ∈ p3, x.block < W.heap.size := by obtain ⟨m, hm⟩ := k3; exact DataW.trod_lt m _ _ _ hm
  obtain ⟨a3, len3, cap3, rfl⟩ := okWide_slice Try.underlying35 (hval 3 35 v3 rfl rfl)
  obtain ⟨fu3, hf3⟩ := h3
  have o3 : Opn Try.prog W 35 ((Kd.slice 61 k61) : Kd _) _ := (op_slice Try.underlying35 (by kernel_rfl) (op_struct (d := (Kd.pair (Kd.slice 9 Kd.string) (Kd.pair (Kd.slice 9 Kd.string) (Kd.pair (Kd.slice 9 Kd.string) (Kd.int .i64))))) (f := fun x : S61 => (x.f0, x.f1, x.f2, x.f3)) (g := fun y => (⟨y.1, y.2.1, y.2.2.1, y.2.2.2⟩ : S61)) Try.underlying61 (by rfl) (by kernel_rfl) (fun _ => rfl) (opAt_cons (by kernel_rfl) (op_slice Try.underlying23 (by kernel_rfl) (op_string Try.underlying9)) (opAt_cons (by kernel_rfl) (op_slice Try.underlying23 (by kernel_rfl) (op_string Try.underlying9)) (opAt_cons (by kernel_rfl) (op_slice Try.underlying23 (by kernel_rfl) (op_string Try.underlying9)) (opAt_one (by kernel_rfl) (op_int Try.underlying3)))))))
  obtain ⟨y3, hk3, hg3⟩ := o3 hf3
  obtain ⟨cs3, hcs3, hq3⟩ : ∃ l : List Value, Value.cells (.slice a3 len3 cap3) = l.toArray ∧ ((Kd.slice 61 k61) : Kd _).K W y3 l := ⟨_, by simp, hk3⟩
  clear hk3
  obtain ⟨A3, c3, rfl, hl3, hC3⟩ := hq3
  simp [Value.cells] at hcs3
  obtain ⟨rfl, rfl, rfl⟩ := hcs3
  clear hA0 hval0 hsz0
  obtain ⟨k, h⟩ := Pure.FnExactUnlikeShown a0 a1 (y2) (y3) hg0 hg1 hg2 hg3
  refine (PA.laws_FnExactUnlikeShown.calls k a0 a1 _ _ (y2) _ _ (y3) true W hC2 hl2 hC3 hl3 h ⟨rfl⟩).mono fun e W' ⟨he, bel0⟩ => ?_
  have bel : Below W.heap.size W W' := bel0
  subst he
  exact ⟨_, rfl, _, _, _, [], _, [], hW', trodAll_mk1 (shut_bool Try.underlying4 _), (trodAll_cons_mk (shut_string Try.underlying9 hg0) (trodAll_cons_mk (shut_string Try.underlying9 hg1) (trodAll_cons_mk (Below.trod laidOut (by kernel_rfl) (of_decide_eq_true (by kernel_rfl)) k2 bel lt2) (trodAll_cons_mk (Below.trod laidOut (by kernel_rfl) (of_decide_eq_true (by kernel_rfl)) k3 bel lt3) trodAll_mk0)))), rfl, bel.frame _, fun h => by cases h⟩
theorem over : Rows.fnExactUnlikeShownRow.holds Try.pinned (OpenSpec.ofChange Rows.fnExactUnlikeShownSpec) :=
  OpenClaim.holds_of_wide 4 Try.f4 rfl rfl rfl rfl rfl rfl rfl ⟨rfl, rfl, rfl, rfl, rfl⟩ rfl rfl rfl rfl rfl (by kernel_rfl) Try.func4 (by kernel_rfl)
    (of_decide_eq_true (by kernel_rfl)) (by unfold Func.isWrapper; first | (rw [if_pos (by decide +kernel)]; kernel_rfl) | (rw [if_neg (by decide +kernel)]; exact ⟨rfl, rfl⟩))
    (fun os started H enc _ => lifted os started H enc)
theorem proved : Rows.FnExactUnlikeShownSaid := over
#print axioms proved
end Go.Proofs.Ytpbepgffbcfaoaa.fnExactUnlikeShown
namespace Go.Proofs.Ytpbepgffbcfaoaa
theorem fnExactUnlikeShown_holds : Rows.FnExactUnlikeShownSaid := fnExactUnlikeShown.proved
end Go.Proofs.Ytpbepgffbcfaoaa
