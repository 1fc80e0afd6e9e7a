/- For the law FnExactCheckSlot: what it needs of the words, of the printed functions and of the plain laws, in few texts (laid by merge.py of this workplace). -/
import Derived.Test.YtleegjkloclolaaMFnExactCheckSlotc
import Derived.Test.YtleegjkloclolaaRows
import Derived.WalkKit
import Derived.ProofKit
import Derived.OpenShut
import Derived.ShutString
import Derived.ChangeOld
import Derived.Below
import Derived.SizedLaws
namespace Go.Proofs.Ytleegjkloclolaa.fnExactCheckSlot
open Go.ChangeShapes Go.WideShapes Go.ChangeAt Go.RowKit Go.Proofs.Ytleegjkloclolaa.RO Go.Proofs.Ytleegjkloclolaa.PA Go.Proofs.YtleegjkloclolaaW.PrintWords
open Go.ChangeMaps (open_string shut_string)
set_option linter.unusedVariables false
theorem own : ownKnob Try.prog.godebug = none := by kernel_rfl
theorem laidOut : laidOutB Try.prog = true := by kernel_rfl
set_option maxRecDepth 100000 in
theorem lifted (os : Os) (started : os.Started) (H : Type) (enc : TypeId × Value → H) :
    ReturnsInHanded {} Try.checked os 9 .any (Rows.fnExactCheckSlotSpec.pre6 enc Try.prog Try.f9 Rows.fnExactCheckSlotRow.domain false) (Rows.fnExactCheckSlotSpec.post enc Try.prog Try.f9 false true false false) := by
  refine returnsInHanded_of_change_sized (C := Try.checked) own started (by kernel_rfl) Try.func9
    (ChangeSpec.witness6 (enc := enc) (C := Try.checked) false ⟨#[], #[.string ByteArray.empty, .int .i64 0, .agg #[.string ByteArray.empty, .string ByteArray.empty, .string ByteArray.empty, .string ByteArray.empty, .bool false], .slice none 0 0], []⟩ 8 (by kernel_rfl) (by kernel_rfl) (by kernel_rfl) (by kernel_rfl)) ?_
  intro W base args ds gs before hval0 hW hcnd hsz0 _
  have hval : ∀ (j : Nat) t v, Try.f9.params[j]? = some t → args[j]? = some v → Value.okWide Try.prog W .any base t v := hval0
  have hW' := hW
  obtain ⟨p, q, hA0, hV, rfl, hfz, hnd⟩ := hW
  have hA : DataW.TrodAll enc Try.prog W 0 (fun _ => true) true Try.f9.params.toList args.toList ds p := hA0
  rw [Try.params9] at hA hval
  obtain ⟨v0, vs0, d0, ds0, p0, q0, hargs, rfl, rfl, h0, r0⟩ := trodAll_cons hA
  obtain ⟨v1, vs1, d1, ds1, p1, q1, rfl, rfl, rfl, h1, r1⟩ := trodAll_cons r0
  obtain ⟨v2, vs2, d2, ds2, p2, q2, rfl, rfl, rfl, h2, r2⟩ := trodAll_cons r1
  obtain ⟨v3, vs3, d3, ds3, p3, q3, rfl, rfl, rfl, h3, r3⟩ := trodAll_cons r2
  obtain ⟨rfl, rfl, rfl⟩ := trodAll_nil r3
  obtain rfl : args = #[v0, v1, v2, v3] := by cases args; simp_all
  obtain ⟨rfl, rfl⟩ := trodVars_none hV
  obtain ⟨a0, rfl, rfl, rfl, hg0⟩ := open_string Try.underlying9 (hval 0 9 v0 rfl rfl) h0
  obtain ⟨a1, rfl, rfl, rfl, hg1⟩ := open_int Try.underlying3 (hval 1 3 v1 rfl rfl) h1
  have k2 := h2
  have lt2 : ∀ x ∈ p2, x.block < W.heap.size := by obtain ⟨m, hm⟩ := k2; exact DataW.trod_lt m _ _ _ hm
  obtain ⟨fu2, hf2⟩ := h2
  have o2 : Opn Try.prog W 64 ((Kd.pair Kd.string (Kd.pair Kd.string (Kd.pair Kd.string (Kd.pair Kd.string Kd.bool)))) : Kd _) _ := (op_struct0 Try.underlying64 (by rfl) (by kernel_rfl) (opAt_cons (by kernel_rfl) (op_string Try.underlying9) (opAt_cons (by kernel_rfl) (op_string Try.underlying9) (opAt_cons (by kernel_rfl) (op_string Try.underlying9) (opAt_cons (by kernel_rfl) (op_string Try.underlying9) (opAt_one (by kernel_rfl) (op_bool Try.underlying4)))))))
  obtain ⟨y2, hk2, hg2⟩ := o2 hf2
  obtain ⟨cs2, hcs2, hq2⟩ : ∃ l : List Value, Value.cells (v2) = l.toArray ∧ ((Kd.pair Kd.string (Kd.pair Kd.string (Kd.pair Kd.string (Kd.pair Kd.string Kd.bool)))) : Kd _).K W y2 l := ⟨_, by simp, hk2⟩
  clear hk2
  obtain ⟨cs2_0, rs2_0, rfl, hk2_0, hr2_0⟩ := hq2
  obtain rfl : cs2_0 = [.string y2.1] := hk2_0
  obtain ⟨cs2_1, rs2_1, rfl, hk2_1, hr2_1⟩ := hr2_0
  obtain rfl : cs2_1 = [.string y2.2.1] := hk2_1
  obtain ⟨cs2_2, rs2_2, rfl, hk2_2, hr2_2⟩ := hr2_1
  obtain rfl : cs2_2 = [.string y2.2.2.1] := hk2_2
  obtain ⟨cs2_3, rs2_3, rfl, hk2_3, hr2_3⟩ := hr2_2
  obtain rfl : cs2_3 = [.string y2.2.2.2.1] := hk2_3
  obtain rfl : rs2_3 = [.bool y2.2.2.2.2] := hr2_3
  obtain rfl : v2 = .agg #[.string y2.1, .string y2.2.1, .string y2.2.2.1, .string y2.2.2.2.1, .bool y2.2.2.2.2] := agg_of_cells (l := [.string y2.1, .string y2.2.1, .string y2.2.2.1, .string y2.2.2.2.1, .bool y2.2.2.2.2]) (by rw [hcs2]; rfl) (Nat.le_of_ble_eq_true rfl)
  clear hcs2
  have k3 := h3
  have lt3 : ∀ x ∈ p3, x.block < W.heap.size := by obtain ⟨m, hm⟩ := k3; exact DataW.trod_lt m _ _ _ hm
  obtain ⟨a3, len3, cap3, rfl⟩ := okWide_slice Try.underlying22 (hval 3 22 v3 rfl rfl)
  obtain ⟨fu3, hf3⟩ := h3
  have o3 : Opn Try.prog W 22 ((Kd.slice 9 Kd.string) : Kd _) _ := (op_slice Try.underlying22 (by kernel_rfl) (op_string Try.underlying9))
  obtain ⟨y3, hk3, hg3⟩ := o3 hf3
  obtain ⟨cs3, hcs3, hq3⟩ : ∃ l : List Value, Value.cells (.slice a3 len3 cap3) = l.toArray ∧ ((Kd.slice 9 Kd.string) : Kd _).K W y3 l := ⟨_, by simp, hk3⟩
  clear hk3
  obtain ⟨A3, c3, rfl, hl3, hC3⟩ := hq3
  simp [Value.cells] at hcs3
  obtain ⟨rfl, rfl, rfl⟩ := hcs3
  clear hA0 hval0 hsz0
  obtain ⟨k, h⟩ := Pure.FnExactCheckSlot a0 a1 (y2.1) (y2.2.1) (y2.2.2.1) (y2.2.2.2.1) (y2.2.2.2.2) (y3) hg0 hg1 hg2 hg3
  refine (PA.laws_FnExactCheckSlot.calls k a0 a1 (y2.1) (y2.2.1) (y2.2.2.1) (y2.2.2.2.1) (y2.2.2.2.2) _ _ (y3) true W hC3 hl3 h).mono fun e W' ⟨he, bel0⟩ => ?_
  have bel : Below W.heap.size W W' := bel0
  subst he
  exact ⟨_, rfl, _, _, _, [], _, [], hW', trodAll_mk1 (shut_bool Try.underlying4 _), (trodAll_cons_mk (shut_string Try.underlying9 hg0) (trodAll_cons_mk (shut_int Try.underlying3 hg1) (trodAll_cons_mk (Below.trod laidOut (by kernel_rfl) (of_decide_eq_true (by kernel_rfl)) k2 bel lt2) (trodAll_cons_mk (Below.trod laidOut (by kernel_rfl) (of_decide_eq_true (by kernel_rfl)) k3 bel lt3) trodAll_mk0)))), rfl, bel.frame _, fun h => by cases h⟩
theorem over : Rows.fnExactCheckSlotRow.holds Try.pinned (OpenSpec.ofChange Rows.fnExactCheckSlotSpec) :=
  OpenClaim.holds_of_wide 9 Try.f9 rfl rfl rfl rfl rfl rfl rfl ⟨rfl, rfl, rfl, rfl, rfl⟩ rfl rfl rfl rfl rfl (by kernel_rfl) Try.func9 (by kernel_rfl)
    (of_decide_eq_true (by kernel_rfl)) (by unfold Func.isWrapper; first | (rw [if_pos (by decide +kernel)]; kernel_rfl) | (rw [if_neg (by decide +kernel)]; exact ⟨rfl, rfl⟩))
    (fun os started H enc _ => lifted os started H enc)
theorem proved : Rows.FnExactCheckSlotSaid := over
#print axioms proved
end Go.Proofs.Ytleegjkloclolaa.fnExactCheckSlot
namespace Go.Proofs.Ytleegjkloclolaa
theorem fnExactCheckSlot_holds : Rows.FnExactCheckSlotSaid := fnExactCheckSlot.proved
end Go.Proofs.Ytleegjkloclolaa
