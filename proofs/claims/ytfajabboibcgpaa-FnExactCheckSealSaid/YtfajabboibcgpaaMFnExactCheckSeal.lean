/- For the law FnExactCheckSeal: what it needs of the words, of the printed functions and of the plain laws, in few texts (laid by merge.py of this workplace). -/
import Derived.Test.YtfajabboibcgpaaMFnExactCheckSealc
import Derived.Test.YtfajabboibcgpaaRows
import Derived.WalkKit
import Derived.ProofKit
import Derived.OpenShut
import Derived.ShutString
import Derived.ChangeOld
import Derived.Below
import Derived.SizedLaws
namespace Go.Proofs.Ytfajabboibcgpaa.fnExactCheckSeal
open Go.ChangeShapes Go.WideShapes Go.ChangeAt Go.RowKit Go.Proofs.Ytfajabboibcgpaa.RO Go.Proofs.Ytfajabboibcgpaa.PA Go.Proofs.YtfajabboibcgpaaW.PrintWords
open Go.ChangeMaps (open_string shut_string)
set_option linter.unusedVariables false
theorem own : ownKnob Try.prog.godebug = none := by kernel_rfl
theorem laidOut : laidOutB Try.prog = true := by kernel_rfl
set_option maxRecDepth 100000 in
theorem lifted (os : Os) (started : os.Started) (H : Type) (enc : TypeId × Value → H) :
    ReturnsInHanded {} Try.checked os 5 .any (Rows.fnExactCheckSealSpec.pre6 enc Try.prog Try.f5 Rows.fnExactCheckSealRow.domain false) (Rows.fnExactCheckSealSpec.post enc Try.prog Try.f5 false true false false) := by
  refine returnsInHanded_of_change_sized (C := Try.checked) own started (by kernel_rfl) Try.func5
    (ChangeSpec.witness6 (enc := enc) (C := Try.checked) false ⟨#[], #[.string ByteArray.empty, .string ByteArray.empty, .agg #[.int .i64 0, .slice none 0 0, .slice none 0 0]], []⟩ 8 (by kernel_rfl) (by kernel_rfl) (by kernel_rfl) (by kernel_rfl)) ?_
  intro W base args ds gs before hval0 hW hcnd hsz0 _
  have hval : ∀ (j : Nat) t v, Try.f5.params[j]? = some t → args[j]? = some v → Value.okWide Try.prog W .any base t v := hval0
  have hW' := hW
  obtain ⟨p, q, hA0, hV, rfl, hfz, hnd⟩ := hW
  have hA : DataW.TrodAll enc Try.prog W 0 (fun _ => true) true Try.f5.params.toList args.toList ds p := hA0
  rw [Try.params5] at hA hval
  obtain ⟨v0, vs0, d0, ds0, p0, q0, hargs, rfl, rfl, h0, r0⟩ := trodAll_cons hA
  obtain ⟨v1, vs1, d1, ds1, p1, q1, rfl, rfl, rfl, h1, r1⟩ := trodAll_cons r0
  obtain ⟨v2, vs2, d2, ds2, p2, q2, rfl, rfl, rfl, h2, r2⟩ := trodAll_cons r1
  obtain ⟨rfl, rfl, rfl⟩ := trodAll_nil r2
  obtain rfl : args = #[v0, v1, v2] := by cases args; simp_all
  obtain ⟨rfl, rfl⟩ := trodVars_none hV
  obtain ⟨a0, rfl, rfl, rfl, hg0⟩ := open_string Try.underlying9 (hval 0 9 v0 rfl rfl) h0
  obtain ⟨a1, rfl, rfl, rfl, hg1⟩ := open_string Try.underlying9 (hval 1 9 v1 rfl rfl) h1
  have k2 := h2
  have lt2 : ∀ x ∈ p2, x.block < W.heap.size := by obtain ⟨m, hm⟩ := k2; exact DataW.trod_lt m _ _ _ hm
  obtain ⟨fu2, hf2⟩ := h2
  have o2 : Opn Try.prog W 47 ((Kd.pair (Kd.int .i64) (Kd.pair (Kd.slice 9 Kd.string) (Kd.slice 9 Kd.string))) : Kd _) _ := (op_struct0 Try.underlying47 (by rfl) (by kernel_rfl) (opAt_cons (by kernel_rfl) (op_int Try.underlying3) (opAt_cons (by kernel_rfl) (op_slice Try.underlying45 (by kernel_rfl) (op_string Try.underlying9)) (opAt_one (by kernel_rfl) (op_slice Try.underlying45 (by kernel_rfl) (op_string Try.underlying9))))))
  obtain ⟨y2, hk2, hg2⟩ := o2 hf2
  obtain ⟨cs2, hcs2, hq2⟩ : ∃ l : List Value, Value.cells (v2) = l.toArray ∧ ((Kd.pair (Kd.int .i64) (Kd.pair (Kd.slice 9 Kd.string) (Kd.slice 9 Kd.string))) : Kd _).K W y2 l := ⟨_, by simp, hk2⟩
  clear hk2
  obtain ⟨cs2_0, rs2_0, rfl, hk2_0, hr2_0⟩ := hq2
  obtain rfl : cs2_0 = [.int .i64 y2.1] := hk2_0
  obtain ⟨cs2_1, rs2_1, rfl, hk2_1, hr2_1⟩ := hr2_0
  obtain ⟨A2_1, c2_1, rfl, hl2_1, hC2_1⟩ := hk2_1
  obtain ⟨A2_2, c2_2, rfl, hl2_2, hC2_2⟩ := hr2_1
  obtain rfl : v2 = .agg #[.int .i64 y2.1, .slice A2_1 (y2.2.1).length c2_1, .slice A2_2 (y2.2.2).length c2_2] := agg_of_cells (l := [.int .i64 y2.1, .slice A2_1 (y2.2.1).length c2_1, .slice A2_2 (y2.2.2).length c2_2]) (by rw [hcs2]; rfl) (Nat.le_of_ble_eq_true rfl)
  clear hcs2
  clear hA0 hval0 hsz0
  obtain ⟨k, h⟩ := Pure.FnExactCheckSeal a0 a1 (y2.1) (y2.2.1) (y2.2.2) hg0 hg1 hg2
  refine (PA.laws_FnExactCheckSeal.calls k a0 a1 (y2.1) _ _ (y2.2.1) _ _ (y2.2.2) true W hC2_1 hl2_1 hC2_2 hl2_2 h).mono fun e W' ⟨he, bel0⟩ => ?_
  have bel : Below W.heap.size W W' := bel0
  subst he
  exact ⟨_, rfl, _, _, _, [], _, [], hW', trodAll_mk1 (shut_bool Try.underlying4 _), (trodAll_cons_mk (shut_string Try.underlying9 hg0) (trodAll_cons_mk (shut_string Try.underlying9 hg1) (trodAll_cons_mk (Below.trod laidOut (by kernel_rfl) (of_decide_eq_true (by kernel_rfl)) k2 bel lt2) trodAll_mk0))), rfl, bel.frame _, fun h => by cases h⟩
theorem over : Rows.fnExactCheckSealRow.holds Try.pinned (OpenSpec.ofChange Rows.fnExactCheckSealSpec) :=
  OpenClaim.holds_of_wide 5 Try.f5 rfl rfl rfl rfl rfl rfl rfl ⟨rfl, rfl, rfl, rfl, rfl⟩ rfl rfl rfl rfl rfl (by kernel_rfl) Try.func5 (by kernel_rfl)
    (of_decide_eq_true (by kernel_rfl)) (by unfold Func.isWrapper; first | (rw [if_pos (by decide +kernel)]; kernel_rfl) | (rw [if_neg (by decide +kernel)]; exact ⟨rfl, rfl⟩))
    (fun os started H enc _ => lifted os started H enc)
theorem proved : Rows.FnExactCheckSealSaid := over
#print axioms proved
end Go.Proofs.Ytfajabboibcgpaa.fnExactCheckSeal
namespace Go.Proofs.Ytfajabboibcgpaa
theorem fnExactCheckSeal_holds : Rows.FnExactCheckSealSaid := fnExactCheckSeal.proved
end Go.Proofs.Ytfajabboibcgpaa
