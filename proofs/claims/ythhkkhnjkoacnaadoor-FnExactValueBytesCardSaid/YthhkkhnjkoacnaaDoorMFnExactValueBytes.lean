/- For the law FnExactValueBytes: what it needs of the words, of the printed functions and of the plain laws, in few texts (laid by merge.py of this workplace). -/
import Derived.Test.YthhkkhnjkoacnaaDoorMFnExactValueBytesb
import Derived.Test.YthhkkhnjkoacnaaDoorRows
import Derived.Test.YthhkkhnjkoacnaaDoorTie
import Derived.Test.YthhkkhnjkoacnaaDoorCards
import Derived.LaidMore
import Derived.Lay
import Derived.SevenTiedAt
import Derived.Stop.Joined
import Derived.WalkKit
import Derived.ProofKit
import Derived.OpenShut
import Derived.ShutString
import Derived.ChangeOld
import Derived.Below
import Derived.SizedLaws
namespace Go.Proofs.YthhkkhnjkoacnaaDoor.fnExactValueBytes
open Go.ChangeShapes Go.WideShapes Go.ChangeAt Go.RowKit Go.Proofs.YthhkkhnjkoacnaaDoor.RO Go.Proofs.YthhkkhnjkoacnaaDoor.PA Go.Proofs.YthhkkhnjkoacnaaDoorW.PrintWords
open Go.ChangeMaps (open_string shut_string)
set_option linter.unusedVariables false
theorem own : ownKnob Tryd.prog.godebug = none := by kernel_rfl
theorem laidOut : laidOutB Tryd.prog = true := by kernel_rfl
set_option maxRecDepth 100000 in
theorem lifted (os : Os) (started : os.Started) (H : Type) (enc : TypeId × Value → H) :
    ReturnsInHanded {} Tryd.checked os 3 .any (fun w args => (Rows.fnExactValueBytesSpec.pre enc Tryd.prog Tryd.f3 Rows.fnExactValueBytesRow.domain false w args ∧ laidMetH Tryd.prog Rows.fnExactValueBytesRow.laid w) ∧ sizedMet enc Tryd.prog Tryd.f3 (OpenSpec.ofChange Rows.fnExactValueBytesSpec) false w args) (Rows.fnExactValueBytesSpec.post enc Tryd.prog Tryd.f3 false true false false) := by
  refine returnsInHanded_of_change_and (C := Tryd.checked) (X := fun w _ => laidMetH Tryd.prog Rows.fnExactValueBytesRow.laid w) (fun _ _ _ hh h => h.of_heap hh) own started (by kernel_rfl) Tryd.func3
    (ChangeSpec.witness_shaped (enc := enc) (C := Tryd.checked) (os := os) (X := fun w _ => laidMetH Tryd.prog Rows.fnExactValueBytesRow.laid w) false (World.laidAll Tryd.prog os Rows.fnExactValueBytesRow.laid) #[.agg #[.int .i64 0, .int .i64 0, .string ByteArray.empty]] 8 (World.laidAll_os _ _ _)
      (World.shaped_of_ZipB (by kernel_rfl) (by kernel_rfl)) (by kernel_rfl) (by kernel_rfl) (by kernel_rfl)
      (by rw [MakeChecks.laidMetH_plain _ _ _ (by kernel_rfl)]; exact laidMet_laidAll _ (by kernel_rfl) (by kernel_rfl))) ?_
  intro W base args ds gs before hval0 hW hcnd hsz0 hsz1 hsz2
  have hval : ∀ (j : Nat) t v, Tryd.f3.params[j]? = some t → args[j]? = some v → Value.okWide Tryd.prog W .any base t v := hval0
  have hW' := hW
  obtain ⟨p, q, hA0, hV, rfl, hfz, hnd⟩ := hW
  have hA : DataW.TrodAll enc Tryd.prog W 0 (fun _ => true) true Tryd.f3.params.toList args.toList ds p := hA0
  rw [Tryd.params3] at hA hval
  obtain ⟨v0, vs0, d0, ds0, p0, q0, hargs, rfl, rfl, h0, r0⟩ := trodAll_cons hA
  obtain ⟨rfl, rfl, rfl⟩ := trodAll_nil r0
  obtain rfl : args = #[v0] := by cases args; simp_all
  obtain ⟨rfl, rfl⟩ := trodVars_none hV
  have k0 := h0
  have lt0 : ∀ x ∈ p0, x.block < W.heap.size := by obtain ⟨m, hm⟩ := k0; exact DataW.trod_lt m _ _ _ hm
  obtain ⟨fu0, hf0⟩ := h0
  have o0 : Opn Tryd.prog W 23 ((Kd.pair (Kd.int .i64) (Kd.pair (Kd.int .i64) Kd.string)) : Kd _) _ := (op_struct0 Tryd.underlying23 (by rfl) (by kernel_rfl) (opAt_cons (by kernel_rfl) (op_int Tryd.underlying3) (opAt_cons (by kernel_rfl) (op_int Tryd.underlying3) (opAt_one (by kernel_rfl) (op_string Tryd.underlying9)))))
  obtain ⟨y0, hk0, hg0⟩ := o0 hf0
  obtain ⟨cs0, hcs0, hq0⟩ : ∃ l : List Value, Value.cells (v0) = l.toArray ∧ ((Kd.pair (Kd.int .i64) (Kd.pair (Kd.int .i64) Kd.string)) : Kd _).K W y0 l := ⟨_, by simp, hk0⟩
  clear hk0
  obtain ⟨cs0_0, rs0_0, rfl, hk0_0, hr0_0⟩ := hq0
  obtain rfl : cs0_0 = [.int .i64 y0.1] := hk0_0
  obtain ⟨cs0_1, rs0_1, rfl, hk0_1, hr0_1⟩ := hr0_0
  obtain rfl : cs0_1 = [.int .i64 y0.2.1] := hk0_1
  obtain rfl : rs0_1 = [.string y0.2.2] := hr0_1
  obtain rfl : v0 = .agg #[.int .i64 y0.1, .int .i64 y0.2.1, .string y0.2.2] := agg_of_cells (l := [.int .i64 y0.1, .int .i64 y0.2.1, .string y0.2.2]) (by rw [hcs0]; rfl) (Nat.le_of_ble_eq_true rfl)
  clear hcs0
  clear hA0 hval0 hsz0
  obtain ⟨k, h⟩ := Pure.FnExactValueBytes (y0.1) (y0.2.1) (y0.2.2) hg0
  refine (PA.laws_FnExactValueBytes.calls k (y0.1) (y0.2.1) (y0.2.2) true W  h).mono fun e W' ⟨he, bel0⟩ => ?_
  have bel : Below W.heap.size W W' := bel0
  subst he
  exact ⟨_, rfl, _, _, _, [], _, [], hW', trodAll_mk1 (shut_bool Tryd.underlying4 _), (trodAll_cons_mk (Below.trod laidOut (by kernel_rfl) (of_decide_eq_true (by kernel_rfl)) k0 bel lt0) trodAll_mk0), rfl, bel.frame _, fun h => by cases h⟩
theorem over : Rows.fnExactValueBytesRow.holds Tryd.pinned (OpenSpec.ofChange Rows.fnExactValueBytesSpec) :=
  OpenClaim.holds_of_wide 3 Tryd.f3 rfl rfl rfl rfl rfl rfl rfl ⟨rfl, rfl, rfl, rfl, rfl⟩ rfl rfl rfl rfl rfl (by kernel_rfl) Tryd.func3 (by kernel_rfl)
    (of_decide_eq_true (by kernel_rfl)) (by unfold Func.isWrapper; first | (rw [if_pos (by decide +kernel)]; kernel_rfl) | (rw [if_neg (by decide +kernel)]; exact ⟨rfl, rfl⟩))
    (fun os started H enc _ => lifted os started H enc)
theorem proved : Rows.FnExactValueBytesCardSaid :=
  Claim7.holds_tied_plain_at .later [] [.data, .pinned] true (true, "0b39b03fc2c6aafb2c6d58f3e7f04b16d29522a120f0e9ef8f4dcc5bdc0a0f23") false over (fun _ h => by cases h) (by kernel_rfl) (fun _ h => by cases h) fnExactValueBytes_row_tie rfl ⟨rfl, rfl⟩ (by kernel_rfl) rfl
    (fun f fn hf hfn => by
      obtain rfl : f = 3 := Option.some.inj ((show Tryd.prog.funcNamed Rows.fnExactValueBytesRow.func = some 3 by kernel_rfl).symm.trans hf) |>.symm
      obtain rfl : fn = Tryd.f3 := (Option.some.inj (Tryd.func3.symm.trans hfn)).symm
      exact ⟨by kernel_rfl, fun j t ht => by
        rw [Tryd.params3] at ht
        have hm : t ∈ [23] := by
          have hm0 := Array.mem_of_getElem? ht
          simp at hm0
          simp [hm0]
        have hall : ([23].all fun u => !Tryd.prog.wantsStandIn u) = true := by kernel_rfl
        exact (show Tryd.prog.wantsStandIn t = false by simpa using List.all_eq_true.1 hall t hm)⟩)
    (by kernel_rfl)
#print axioms proved
end Go.Proofs.YthhkkhnjkoacnaaDoor.fnExactValueBytes
namespace Go.Proofs.YthhkkhnjkoacnaaDoor
theorem fnExactValueBytes_holds : Rows.FnExactValueBytesCardSaid := fnExactValueBytes.proved
end Go.Proofs.YthhkkhnjkoacnaaDoor
