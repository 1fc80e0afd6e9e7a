/- For the law FnRows (laid by merge.py). -/
import Derived.Test.YtmfipefpmjcddaaDoorMFnRowsg
import Derived.Test.YtmfipefpmjcddaaDoorRows
import Derived.Test.YtmfipefpmjcddaaDoorTie
import Derived.Test.YtmfipefpmjcddaaDoorCards
import Derived.LaidMore
import Derived.Lay
import Derived.SevenTiedAt
import Derived.Stop.Joined
import Derived.WalkKit
import Derived.ProofKit
import Derived.OpenShut
import Derived.ShutString
import Derived.ChangeOld
import Derived.Below
import Derived.SizedLaws
namespace Go.Proofs.YtmfipefpmjcddaaDoor.fnRows
open Go.ChangeShapes Go.WideShapes Go.ChangeAt Go.RowKit Go.Proofs.YtmfipefpmjcddaaDoor.RO Go.Proofs.YtmfipefpmjcddaaDoor.PA Go.Proofs.YtmfipefpmjcddaaDoorW.PrintWords
open Go.ChangeMaps (open_string shut_string)
set_option linter.unusedVariables false
theorem own : ownKnob Tryd.prog.godebug = none := by kernel_rfl
theorem laidOut : laidOutB Tryd.prog = true := by kernel_rfl
set_option maxRecDepth 100000 in
theorem lifted (os : Os) (started : os.Started) (H : Type) (enc : TypeId × Value → H) :
    ReturnsInHanded {} Tryd.checked os 3 .any (fun w args => (Rows.fnRowsSpec.pre enc Tryd.prog Tryd.f3 Rows.fnRowsRow.domain false w args ∧ laidMetH Tryd.prog Rows.fnRowsRow.laid w) ∧ sizedMet enc Tryd.prog Tryd.f3 (OpenSpec.ofChange Rows.fnRowsSpec) false w args) (Rows.fnRowsSpec.post enc Tryd.prog Tryd.f3 false true false false) := by
  refine returnsInHanded_of_change_and (C := Tryd.checked) (X := fun w _ => laidMetH Tryd.prog Rows.fnRowsRow.laid w) (fun _ _ _ hh h => h.of_heap hh) own started (by kernel_rfl) Tryd.func3
    (ChangeSpec.witness_shaped (enc := enc) (C := Tryd.checked) (os := os) (X := fun w _ => laidMetH Tryd.prog Rows.fnRowsRow.laid w) false (World.laidAll Tryd.prog os Rows.fnRowsRow.laid) #[.slice none 0 0, .slice none 0 0] 8 (World.laidAll_os _ _ _)
      (World.shaped_of_ZipB (by kernel_rfl) (by kernel_rfl)) (by kernel_rfl) (by kernel_rfl) (by kernel_rfl)
      (by rw [MakeChecks.laidMetH_plain _ _ _ (by kernel_rfl)]; exact laidMet_laidAll _ (by kernel_rfl) (by kernel_rfl))) ?_
  intro W base args ds gs before hval0 hW hcnd hsz0 hsz1 hsz2
  have hval : ∀ (j : Nat) t v, Tryd.f3.params[j]? = some t → args[j]? = some v → Value.okWide Tryd.prog W .any base t v := hval0
  have hW' := hW
  obtain ⟨p, q, hA0, hV, rfl, hfz, hnd⟩ := hW
  have hA : DataW.TrodAll enc Tryd.prog W 0 (fun _ => true) true Tryd.f3.params.toList args.toList ds p := hA0
  rw [Tryd.params3] at hA hval
  obtain ⟨v0, vs0, d0, ds0, p0, q0, hargs, rfl, rfl, h0, r0⟩ := trodAll_cons hA
  obtain ⟨v1, vs1, d1, ds1, p1, q1, rfl, rfl, rfl, h1, r1⟩ := trodAll_cons r0
  obtain ⟨rfl, rfl, rfl⟩ := trodAll_nil r1
  obtain rfl : args = #[v0, v1] := by cases args; simp_all
  obtain ⟨rfl, rfl⟩ := trodVars_none hV
  have k0 := h0
  have lt0 : ∀ x ∈ p0, x.block < W.heap.size := by obtain ⟨m, hm⟩ := k0; exact DataW.trod_lt m _ _ _ hm
  obtain ⟨a0, len0, cap0, rfl⟩ := okWide_slice Tryd.underlying22 (hval 0 22 v0 rfl rfl)
  obtain ⟨fu0, hf0⟩ := h0
  have o0 : Opn Tryd.prog W 22 ((Kd.slice 5 (Kd.int .u8)) : Kd _) _ := (op_slice Tryd.underlying22 (by kernel_rfl) (op_int Tryd.underlying5))
  obtain ⟨y0, hk0, hg0⟩ := o0 hf0
  obtain ⟨cs0, hcs0, hq0⟩ : ∃ l : List Value, Value.cells (.slice a0 len0 cap0) = l.toArray ∧ ((Kd.slice 5 (Kd.int .u8)) : Kd _).K W y0 l := ⟨_, by simp, hk0⟩
  clear hk0
  obtain ⟨A0, c0, rfl, hl0, hC0⟩ := hq0
  simp [Value.cells] at hcs0
  obtain ⟨rfl, rfl, rfl⟩ := hcs0
  have k1 := h1
  have lt1 : ∀ x ∈ p1, x.block < W.heap.size := by obtain ⟨m, hm⟩ := k1; exact DataW.trod_lt m _ _ _ hm
  obtain ⟨a1, len1, cap1, rfl⟩ := okWide_slice Tryd.underlying22 (hval 1 22 v1 rfl rfl)
  obtain ⟨fu1, hf1⟩ := h1
  have o1 : Opn Tryd.prog W 22 ((Kd.slice 5 (Kd.int .u8)) : Kd _) _ := (op_slice Tryd.underlying22 (by kernel_rfl) (op_int Tryd.underlying5))
  obtain ⟨y1, hk1, hg1⟩ := o1 hf1
  obtain ⟨cs1, hcs1, hq1⟩ : ∃ l : List Value, Value.cells (.slice a1 len1 cap1) = l.toArray ∧ ((Kd.slice 5 (Kd.int .u8)) : Kd _).K W y1 l := ⟨_, by simp, hk1⟩
  clear hk1
  obtain ⟨A1, c1, rfl, hl1, hC1⟩ := hq1
  simp [Value.cells] at hcs1
  obtain ⟨rfl, rfl, rfl⟩ := hcs1
  clear hA0 hval0 hsz0
  obtain ⟨k, h⟩ := Pure.FnRows (y0) (y1) hg0 hg1
  refine (PA.laws_FnRows.calls k _ _ (y0) _ _ (y1) true W hC0 hl0 hC1 hl1 h ⟨rfl⟩).mono fun e W' ⟨he, bel0⟩ => ?_
  have bel : Below W.heap.size W W' := bel0
  subst he
  exact ⟨_, rfl, _, _, _, [], _, [], hW', trodAll_mk1 (shut_bool Tryd.underlying4 _), (trodAll_cons_mk (Below.trod laidOut (by kernel_rfl) (of_decide_eq_true (by kernel_rfl)) k0 bel lt0) (trodAll_cons_mk (Below.trod laidOut (by kernel_rfl) (of_decide_eq_true (by kernel_rfl)) k1 bel lt1) trodAll_mk0)), rfl, bel.frame _, fun h => by cases h⟩
theorem over : Rows.fnRowsRow.holds Tryd.pinned (OpenSpec.ofChange Rows.fnRowsSpec) :=
  OpenClaim.holds_of_wide 3 Tryd.f3 rfl rfl rfl rfl rfl rfl rfl ⟨rfl, rfl, rfl, rfl, rfl⟩ rfl rfl rfl rfl rfl (by kernel_rfl) Tryd.func3 (by kernel_rfl)
    (of_decide_eq_true (by kernel_rfl)) (by unfold Func.isWrapper; first | (rw [if_pos (by decide +kernel)]; kernel_rfl) | (rw [if_neg (by decide +kernel)]; exact ⟨rfl, rfl⟩))
    (fun os started H enc _ => lifted os started H enc)
theorem proved : Rows.FnRowsCardSaid :=
  Claim7.holds_tied_plain_at .later [] [.data, .pinned] true (true, "8c6f90babc4319ce98c2bc69272fcec5ba515c3dee3253be0198a77365b2edfe") false over (fun _ h => by cases h) (by kernel_rfl) (fun _ h => by cases h) fnRows_row_tie rfl ⟨rfl, rfl⟩ (by kernel_rfl) rfl
    (fun f fn hf hfn => by
      obtain rfl : f = 3 := Option.some.inj ((show Tryd.prog.funcNamed Rows.fnRowsRow.func = some 3 by kernel_rfl).symm.trans hf) |>.symm
      obtain rfl : fn = Tryd.f3 := (Option.some.inj (Tryd.func3.symm.trans hfn)).symm
      exact ⟨by kernel_rfl, fun j t ht => by
        rw [Tryd.params3] at ht
        have hm : t ∈ [22] := by
          have hm0 := Array.mem_of_getElem? ht
          simp at hm0
          simp [hm0]
        have hall : ([22].all fun u => !Tryd.prog.wantsStandIn u) = true := by kernel_rfl
        exact (show Tryd.prog.wantsStandIn t = false by simpa using List.all_eq_true.1 hall t hm)⟩)
    (by kernel_rfl)
#print axioms proved
end Go.Proofs.YtmfipefpmjcddaaDoor.fnRows
namespace Go.Proofs.YtmfipefpmjcddaaDoor
theorem fnRows_holds : Rows.FnRowsCardSaid := fnRows.proved
end Go.Proofs.YtmfipefpmjcddaaDoor
