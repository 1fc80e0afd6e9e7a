/- For the law FnExactSealedText: what it needs of the words, of the printed functions and of the plain laws, in few texts (laid by merge.py of this workplace). -/
import Derived.Test.YthhkkhnjkoacnaaDoorMFnExactSealedTextc
import Derived.Test.YthhkkhnjkoacnaaDoorRows
import Derived.Test.YthhkkhnjkoacnaaDoorTie
import Derived.Test.YthhkkhnjkoacnaaDoorCards
import Derived.LaidMore
import Derived.Lay
import Derived.SevenTiedAt
import Derived.Stop.Joined
import Derived.WalkKit
import Derived.ProofKit
import Derived.OpenShut
import Derived.ShutString
import Derived.ChangeOld
import Derived.Below
import Derived.SizedLaws
namespace Go.Proofs.YthhkkhnjkoacnaaDoor.fnExactSealedText
open Go.ChangeShapes Go.WideShapes Go.ChangeAt Go.RowKit Go.Proofs.YthhkkhnjkoacnaaDoor.RO Go.Proofs.YthhkkhnjkoacnaaDoor.PA Go.Proofs.YthhkkhnjkoacnaaDoorW.PrintWords
open Go.ChangeMaps (open_string shut_string)
set_option linter.unusedVariables false
theorem own : ownKnob Tryd.prog.godebug = none := by kernel_rfl
theorem laidOut : laidOutB Tryd.prog = true := by kernel_rfl
set_option maxRecDepth 100000 in
theorem lifted (os : Os) (started : os.Started) (H : Type) (enc : TypeId × Value → H) :
    ReturnsInHanded {} Tryd.checked os 4 .any (fun w args => (Rows.fnExactSealedTextSpec.pre enc Tryd.prog Tryd.f4 Rows.fnExactSealedTextRow.domain false w args ∧ laidMetH Tryd.prog Rows.fnExactSealedTextRow.laid w) ∧ sizedMet enc Tryd.prog Tryd.f4 (OpenSpec.ofChange Rows.fnExactSealedTextSpec) false w args) (Rows.fnExactSealedTextSpec.post enc Tryd.prog Tryd.f4 false true false false) := by
  refine returnsInHanded_of_change_and (C := Tryd.checked) (X := fun w _ => laidMetH Tryd.prog Rows.fnExactSealedTextRow.laid w) (fun _ _ _ hh h => h.of_heap hh) own started (by kernel_rfl) Tryd.func4
    (ChangeSpec.witness_shaped (enc := enc) (C := Tryd.checked) (os := os) (X := fun w _ => laidMetH Tryd.prog Rows.fnExactSealedTextRow.laid w) false (World.laidAll Tryd.prog os Rows.fnExactSealedTextRow.laid) #[.int .i64 0, .agg #[.string ByteArray.empty, .string ByteArray.empty, .slice none 0 0]] 8 (World.laidAll_os _ _ _)
      (World.shaped_of_ZipB (by kernel_rfl) (by kernel_rfl)) (by kernel_rfl) (by kernel_rfl) (by kernel_rfl)
      (by rw [MakeChecks.laidMetH_plain _ _ _ (by kernel_rfl)]; exact laidMet_laidAll _ (by kernel_rfl) (by kernel_rfl))) ?_
  intro W base args ds gs before hval0 hW hcnd hsz0 hsz1 hsz2
  have hval : ∀ (j : Nat) t v, Tryd.f4.params[j]? = some t → args[j]? = some v → Value.okWide Tryd.prog W .any base t v := hval0
  have hW' := hW
  obtain ⟨p, q, hA0, hV, rfl, hfz, hnd⟩ := hW
  have hA : DataW.TrodAll enc Tryd.prog W 0 (fun _ => true) true Tryd.f4.params.toList args.toList ds p := hA0
  rw [Tryd.params4] at hA hval
  obtain ⟨v0, vs0, d0, ds0, p0, q0, hargs, rfl, rfl, h0, r0⟩ := trodAll_cons hA
  obtain ⟨v1, vs1, d1, ds1, p1, q1, rfl, rfl, rfl, h1, r1⟩ := trodAll_cons r0
  obtain ⟨rfl, rfl, rfl⟩ := trodAll_nil r1
  obtain rfl : args = #[v0, v1] := by cases args; simp_all
  obtain ⟨rfl, rfl⟩ := trodVars_none hV
  obtain ⟨a0, rfl, rfl, rfl, hg0⟩ := open_int Tryd.underlying3 (hval 0 3 v0 rfl rfl) h0
  have k1 := h1
  have lt1 : ∀ x ∈ p1, x.block < W.heap.size := by obtain ⟨m, hm⟩ := k1; exact DataW.trod_lt m _ _ _ hm
  obtain ⟨fu1, hf1⟩ := h1
  have o1 : Opn Tryd.prog W 32 ((Kd.pair Kd.string (Kd.pair Kd.string (Kd.slice 9 Kd.string))) : Kd _) _ := (op_struct0 Tryd.underlying32 (by rfl) (by kernel_rfl) (opAt_cons (by kernel_rfl) (op_string Tryd.underlying9) (opAt_cons (by kernel_rfl) (op_string Tryd.underlying9) (opAt_one (by kernel_rfl) (op_slice Tryd.underlying30 (by kernel_rfl) (op_string Tryd.underlying9))))))
  obtain ⟨y1, hk1, hg1⟩ := o1 hf1
  obtain ⟨cs1, hcs1, hq1⟩ : ∃ l : List Value, Value.cells (v1) = l.toArray ∧ ((Kd.pair Kd.string (Kd.pair Kd.string (Kd.slice 9 Kd.string))) : Kd _).K W y1 l := ⟨_, by simp, hk1⟩
  clear hk1
  obtain ⟨cs1_0, rs1_0, rfl, hk1_0, hr1_0⟩ := hq1
  obtain rfl : cs1_0 = [.string y1.1] := hk1_0
  obtain ⟨cs1_1, rs1_1, rfl, hk1_1, hr1_1⟩ := hr1_0
  obtain rfl : cs1_1 = [.string y1.2.1] := hk1_1
  obtain ⟨A1_2, c1_2, rfl, hl1_2, hC1_2⟩ := hr1_1
  obtain rfl : v1 = .agg #[.string y1.1, .string y1.2.1, .slice A1_2 (y1.2.2).length c1_2] := agg_of_cells (l := [.string y1.1, .string y1.2.1, .slice A1_2 (y1.2.2).length c1_2]) (by rw [hcs1]; rfl) (Nat.le_of_ble_eq_true rfl)
  clear hcs1
  clear hA0 hval0 hsz0
  obtain ⟨k, h⟩ := Pure.FnExactSealedText a0 (y1.1) (y1.2.1) (y1.2.2) hg0 hg1
  refine (PA.laws_FnExactSealedText.calls k a0 (y1.1) (y1.2.1) _ _ (y1.2.2) true W hC1_2 hl1_2 h).mono fun e W' ⟨he, bel0⟩ => ?_
  have bel : Below W.heap.size W W' := bel0
  subst he
  exact ⟨_, rfl, _, _, _, [], _, [], hW', trodAll_mk1 (shut_bool Tryd.underlying4 _), (trodAll_cons_mk (shut_int Tryd.underlying3 hg0) (trodAll_cons_mk (Below.trod laidOut (by kernel_rfl) (of_decide_eq_true (by kernel_rfl)) k1 bel lt1) trodAll_mk0)), rfl, bel.frame _, fun h => by cases h⟩
theorem over : Rows.fnExactSealedTextRow.holds Tryd.pinned (OpenSpec.ofChange Rows.fnExactSealedTextSpec) :=
  OpenClaim.holds_of_wide 4 Tryd.f4 rfl rfl rfl rfl rfl rfl rfl ⟨rfl, rfl, rfl, rfl, rfl⟩ rfl rfl rfl rfl rfl (by kernel_rfl) Tryd.func4 (by kernel_rfl)
    (of_decide_eq_true (by kernel_rfl)) (by unfold Func.isWrapper; first | (rw [if_pos (by decide +kernel)]; kernel_rfl) | (rw [if_neg (by decide +kernel)]; exact ⟨rfl, rfl⟩))
    (fun os started H enc _ => lifted os started H enc)
theorem proved : Rows.FnExactSealedTextCardSaid :=
  Claim7.holds_tied_plain_at .later [] [.data, .data, .data] true (true, "0b39b03fc2c6aafb2c6d58f3e7f04b16d29522a120f0e9ef8f4dcc5bdc0a0f23") false over (fun _ h => by cases h) (by kernel_rfl) (fun _ h => by cases h) fnExactSealedText_row_tie rfl ⟨rfl, rfl⟩ (by kernel_rfl) rfl
    (fun f fn hf hfn => by
      obtain rfl : f = 4 := Option.some.inj ((show Tryd.prog.funcNamed Rows.fnExactSealedTextRow.func = some 4 by kernel_rfl).symm.trans hf) |>.symm
      obtain rfl : fn = Tryd.f4 := (Option.some.inj (Tryd.func4.symm.trans hfn)).symm
      exact ⟨by kernel_rfl, fun j t ht => by
        rw [Tryd.params4] at ht
        have hm : t ∈ [3, 32] := by
          have hm0 := Array.mem_of_getElem? ht
          simp at hm0
          simp [hm0]
        have hall : ([3, 32].all fun u => !Tryd.prog.wantsStandIn u) = true := by kernel_rfl
        exact (show Tryd.prog.wantsStandIn t = false by simpa using List.all_eq_true.1 hall t hm)⟩)
    (by kernel_rfl)
#print axioms proved
end Go.Proofs.YthhkkhnjkoacnaaDoor.fnExactSealedText
namespace Go.Proofs.YthhkkhnjkoacnaaDoor
theorem fnExactSealedText_holds : Rows.FnExactSealedTextCardSaid := fnExactSealedText.proved
end Go.Proofs.YthhkkhnjkoacnaaDoor
