/- For the law FnExactCheckAnswer (laid by merge.py). -/
import Derived.Test.YtmfipefpmjcddaaGreatDoorMFnExactCheckAnswerg
import Derived.Test.YtmfipefpmjcddaaGreatDoorRows
import Derived.Test.YtmfipefpmjcddaaGreatDoorTie
import Derived.Test.YtmfipefpmjcddaaGreatDoorCards
import Derived.LaidMore
import Derived.Lay
import Derived.SevenTiedAt
import Derived.Stop.Joined
import Derived.WalkKit
import Derived.ProofKit
import Derived.OpenShut
import Derived.ShutString
import Derived.ChangeOld
import Derived.Below
import Derived.SizedLaws
namespace Go.Proofs.YtmfipefpmjcddaaGreatDoor.fnExactCheckAnswer
open Go.ChangeShapes Go.WideShapes Go.ChangeAt Go.RowKit Go.Proofs.YtmfipefpmjcddaaGreatDoor.RO Go.Proofs.YtmfipefpmjcddaaGreatDoor.PA Go.Proofs.YtmfipefpmjcddaaGreatDoorW.PrintWords
open Go.ChangeMaps (open_string shut_string)
set_option linter.unusedVariables false
theorem own : ownKnob Tryz.prog.godebug = none := by kernel_rfl
theorem laidOut : laidOutB Tryz.prog = true := by kernel_rfl
set_option maxRecDepth 100000 in
theorem lifted (os : Os) (started : os.Started) (H : Type) (enc : TypeId × Value → H) :
    ReturnsInHanded {} Tryz.checked os 3 .any (fun w args => (Rows.fnExactCheckAnswerSpec.pre enc Tryz.prog Tryz.f3 Rows.fnExactCheckAnswerRow.domain false w args ∧ laidMetH Tryz.prog Rows.fnExactCheckAnswerRow.laid w) ∧ sizedMet enc Tryz.prog Tryz.f3 (OpenSpec.ofChange Rows.fnExactCheckAnswerSpec) false w args) (Rows.fnExactCheckAnswerSpec.post enc Tryz.prog Tryz.f3 false true false false) := by
  refine returnsInHanded_of_change_and (C := Tryz.checked) (X := fun w _ => laidMetH Tryz.prog Rows.fnExactCheckAnswerRow.laid w) (fun _ _ _ hh h => h.of_heap hh) own started (by kernel_rfl) Tryz.func3
    (ChangeSpec.witness_shaped (enc := enc) (C := Tryz.checked) (os := os) (X := fun w _ => laidMetH Tryz.prog Rows.fnExactCheckAnswerRow.laid w) false (World.laidAll Tryz.prog os Rows.fnExactCheckAnswerRow.laid) #[.string ByteArray.empty, .string ByteArray.empty, .agg #[.int .i64 0, .string ByteArray.empty, .string ByteArray.empty, .slice none 0 0, .int .i64 0, .slice none 0 0, .slice none 0 0, .slice none 0 0]] 8 (World.laidAll_os _ _ _)
      (World.shaped_of_ZipB (by kernel_rfl) (by kernel_rfl)) (by kernel_rfl) (by kernel_rfl) (by kernel_rfl)
      (by rw [MakeChecks.laidMetH_plain _ _ _ (by kernel_rfl)]; exact laidMet_laidAll _ (by kernel_rfl) (by kernel_rfl))) ?_
  intro W base args ds gs before hval0 hW hcnd hsz0 hsz1 hsz2
  have hval : ∀ (j : Nat) t v, Tryz.f3.params[j]? = some t → args[j]? = some v → Value.okWide Tryz.prog W .any base t v := hval0
  have hW' := hW
  obtain ⟨p, q, hA0, hV, rfl, hfz, hnd⟩ := hW
  have hA : DataW.TrodAll enc Tryz.prog W 0 (fun _ => true) true Tryz.f3.params.toList args.toList ds p := hA0
  rw [Tryz.params3] at hA hval
  obtain ⟨v0, vs0, d0, ds0, p0, q0, hargs, rfl, rfl, h0, r0⟩ := trodAll_cons hA
  obtain ⟨v1, vs1, d1, ds1, p1, q1, rfl, rfl, rfl, h1, r1⟩ := trodAll_cons r0
  obtain ⟨v2, vs2, d2, ds2, p2, q2, rfl, rfl, rfl, h2, r2⟩ := trodAll_cons r1
  obtain ⟨rfl, rfl, rfl⟩ := trodAll_nil r2
  obtain rfl : args = #[v0, v1, v2] := by cases args; simp_all
  obtain ⟨rfl, rfl⟩ := trodVars_none hV
  obtain ⟨a0, rfl, rfl, rfl, hg0⟩ := open_string Tryz.underlying9 (hval 0 9 v0 rfl rfl) h0
  obtain ⟨a1, rfl, rfl, rfl, hg1⟩ := open_string Tryz.underlying9 (hval 1 9 v1 rfl rfl) h1
  have k2 := h2
  have lt2 : ∀ x ∈ p2, x.block < W.heap.size := by obtain ⟨m, hm⟩ := k2; exact DataW.trod_lt m _ _ _ hm
  obtain ⟨fu2, hf2⟩ := h2
  have o2 : Opn Tryz.prog W 29 ((Kd.pair (Kd.int .i64) (Kd.pair (Kd.pair Kd.string (Kd.pair Kd.string (Kd.slice 9 Kd.string))) (Kd.pair (Kd.pair (Kd.int .i64) (Kd.pair (Kd.slice 9 Kd.string) (Kd.slice 9 Kd.string))) (Kd.slice 78 k78)))) : Kd _) _ := (op_struct0 Tryz.underlying29 (by rfl) (by kernel_rfl) (opAt_cons (by kernel_rfl) (op_int Tryz.underlying3) (opAt_cons (by kernel_rfl) (op_struct0 Tryz.underlying24 (by rfl) (by kernel_rfl) (opAt_cons (by kernel_rfl) (op_string Tryz.underlying9) (opAt_cons (by kernel_rfl) (op_string Tryz.underlying9) (opAt_one (by kernel_rfl) (op_slice Tryz.underlying22 (by kernel_rfl) (op_string Tryz.underlying9)))))) (opAt_cons (by kernel_rfl) (op_struct0 Tryz.underlying26 (by rfl) (by kernel_rfl) (opAt_cons (by kernel_rfl) (op_int Tryz.underlying3) (opAt_cons (by kernel_rfl) (op_slice Tryz.underlying22 (by kernel_rfl) (op_string Tryz.underlying9)) (opAt_one (by kernel_rfl) (op_slice Tryz.underlying22 (by kernel_rfl) (op_string Tryz.underlying9)))))) (opAt_one (by kernel_rfl) (op_slice Tryz.underlying27 (by kernel_rfl) (op_struct (d := (Kd.pair (Kd.slice 9 Kd.string) (Kd.pair (Kd.slice 9 Kd.string) (Kd.pair (Kd.slice 9 Kd.string) (Kd.int .i64))))) (f := fun x : S78 => (x.f0, x.f1, x.f2, x.f3)) (g := fun y => (⟨y.1, y.2.1, y.2.2.1, y.2.2.2⟩ : S78)) Tryz.underlying78 (by rfl) (by kernel_rfl) (fun _ => rfl) (opAt_cons (by kernel_rfl) (op_slice Tryz.underlying22 (by kernel_rfl) (op_string Tryz.underlying9)) (opAt_cons (by kernel_rfl) (op_slice Tryz.underlying22 (by kernel_rfl) (op_string Tryz.underlying9)) (opAt_cons (by kernel_rfl) (op_slice Tryz.underlying22 (by kernel_rfl) (op_string Tryz.underlying9)) (opAt_one (by kernel_rfl) (op_int Tryz.underlying3))))))))))))
  obtain ⟨y2, hk2, hg2⟩ := o2 hf2
  obtain ⟨cs2, hcs2, hq2⟩ : ∃ l : List Value, Value.cells (v2) = l.toArray ∧ ((Kd.pair (Kd.int .i64) (Kd.pair (Kd.pair Kd.string (Kd.pair Kd.string (Kd.slice 9 Kd.string))) (Kd.pair (Kd.pair (Kd.int .i64) (Kd.pair (Kd.slice 9 Kd.string) (Kd.slice 9 Kd.string))) (Kd.slice 78 k78)))) : Kd _).K W y2 l := ⟨_, by simp, hk2⟩
  clear hk2
  obtain ⟨cs2_0, rs2_0, rfl, hk2_0, hr2_0⟩ := hq2
  obtain rfl : cs2_0 = [.int .i64 y2.1] := hk2_0
  obtain ⟨cs2_1, rs2_1, rfl, hk2_1, hr2_1⟩ := hr2_0
  obtain ⟨cs2_1_0, rs2_1_0, rfl, hk2_1_0, hr2_1_0⟩ := hk2_1
  obtain rfl : cs2_1_0 = [.string y2.2.1.1] := hk2_1_0
  obtain ⟨cs2_1_1, rs2_1_1, rfl, hk2_1_1, hr2_1_1⟩ := hr2_1_0
  obtain rfl : cs2_1_1 = [.string y2.2.1.2.1] := hk2_1_1
  obtain ⟨A2_1_2, c2_1_2, rfl, hl2_1_2, hC2_1_2⟩ := hr2_1_1
  obtain ⟨cs2_2, rs2_2, rfl, hk2_2, hr2_2⟩ := hr2_1
  obtain ⟨cs2_2_0, rs2_2_0, rfl, hk2_2_0, hr2_2_0⟩ := hk2_2
  obtain rfl : cs2_2_0 = [.int .i64 y2.2.2.1.1] := hk2_2_0
  obtain ⟨cs2_2_1, rs2_2_1, rfl, hk2_2_1, hr2_2_1⟩ := hr2_2_0
  obtain ⟨A2_2_1, c2_2_1, rfl, hl2_2_1, hC2_2_1⟩ := hk2_2_1
  obtain ⟨A2_2_2, c2_2_2, rfl, hl2_2_2, hC2_2_2⟩ := hr2_2_1
  obtain ⟨A2_3, c2_3, rfl, hl2_3, hC2_3⟩ := hr2_2
  obtain rfl : v2 = .agg #[.int .i64 y2.1, .string y2.2.1.1, .string y2.2.1.2.1, .slice A2_1_2 (y2.2.1.2.2).length c2_1_2, .int .i64 y2.2.2.1.1, .slice A2_2_1 (y2.2.2.1.2.1).length c2_2_1, .slice A2_2_2 (y2.2.2.1.2.2).length c2_2_2, .slice A2_3 (y2.2.2.2).length c2_3] := agg_of_cells (l := [.int .i64 y2.1, .string y2.2.1.1, .string y2.2.1.2.1, .slice A2_1_2 (y2.2.1.2.2).length c2_1_2, .int .i64 y2.2.2.1.1, .slice A2_2_1 (y2.2.2.1.2.1).length c2_2_1, .slice A2_2_2 (y2.2.2.1.2.2).length c2_2_2, .slice A2_3 (y2.2.2.2).length c2_3]) (by rw [hcs2]; rfl) (Nat.le_of_ble_eq_true rfl)
  clear hcs2
  clear hA0 hval0 hsz0
  obtain ⟨k, h⟩ := Pure.FnExactCheckAnswer a0 a1 (y2.1) (y2.2.1.1) (y2.2.1.2.1) (y2.2.1.2.2) (y2.2.2.1.1) (y2.2.2.1.2.1) (y2.2.2.1.2.2) (y2.2.2.2) hg0 hg1 hg2
  refine (PA.laws_FnExactCheckAnswer.calls k a0 a1 (y2.1) (y2.2.1.1) (y2.2.1.2.1) _ _ (y2.2.1.2.2) (y2.2.2.1.1) _ _ (y2.2.2.1.2.1) _ _ (y2.2.2.1.2.2) _ _ (y2.2.2.2) true W hC2_1_2 hl2_1_2 hC2_2_1 hl2_2_1 hC2_2_2 hl2_2_2 hC2_3 hl2_3 h ⟨rfl⟩).mono fun e W' ⟨he, bel0⟩ => ?_
  have bel : Below W.heap.size W W' := bel0
  subst he
  exact ⟨_, rfl, _, _, _, [], _, [], hW', trodAll_mk1 (shut_bool Tryz.underlying4 _), (trodAll_cons_mk (shut_string Tryz.underlying9 hg0) (trodAll_cons_mk (shut_string Tryz.underlying9 hg1) (trodAll_cons_mk (Below.trod laidOut (by kernel_rfl) (of_decide_eq_true (by kernel_rfl)) k2 bel lt2) trodAll_mk0))), rfl, bel.frame _, fun h => by cases h⟩
theorem over : Rows.fnExactCheckAnswerRow.holds Tryz.pinned (OpenSpec.ofChange Rows.fnExactCheckAnswerSpec) :=
  OpenClaim.holds_of_wide 3 Tryz.f3 rfl rfl rfl rfl rfl rfl rfl ⟨rfl, rfl, rfl, rfl, rfl⟩ rfl rfl rfl rfl rfl (by kernel_rfl) Tryz.func3 (by kernel_rfl)
    (of_decide_eq_true (by kernel_rfl)) (by unfold Func.isWrapper; first | (rw [if_pos (by decide +kernel)]; kernel_rfl) | (rw [if_neg (by decide +kernel)]; exact ⟨rfl, rfl⟩))
    (fun os started H enc _ => lifted os started H enc)
theorem proved : Rows.FnExactCheckAnswerCardSaid :=
  Claim7.holds_tied_plain_at .later [] [.data, .data, .data] true (true, "be778d14ecad12a3a9f18dd0d352f01528e31bd0121fa0d2ff423f90a7613102") false over (fun _ h => by cases h) (by kernel_rfl) (fun _ h => by cases h) fnExactCheckAnswer_row_tie rfl ⟨rfl, rfl⟩ (by kernel_rfl) rfl
    (fun f fn hf hfn => by
      obtain rfl : f = 3 := Option.some.inj ((show Tryz.prog.funcNamed Rows.fnExactCheckAnswerRow.func = some 3 by kernel_rfl).symm.trans hf) |>.symm
      obtain rfl : fn = Tryz.f3 := (Option.some.inj (Tryz.func3.symm.trans hfn)).symm
      exact ⟨by kernel_rfl, fun j t ht => by
        rw [Tryz.params3] at ht
        have hm : t ∈ [9, 29] := by
          have hm0 := Array.mem_of_getElem? ht
          simp at hm0
          simp [hm0]
        have hall : ([9, 29].all fun u => !Tryz.prog.wantsStandIn u) = true := by kernel_rfl
        exact (show Tryz.prog.wantsStandIn t = false by simpa using List.all_eq_true.1 hall t hm)⟩)
    (by kernel_rfl)
#print axioms proved
end Go.Proofs.YtmfipefpmjcddaaGreatDoor.fnExactCheckAnswer
namespace Go.Proofs.YtmfipefpmjcddaaGreatDoor
theorem fnExactCheckAnswer_holds : Rows.FnExactCheckAnswerCardSaid := fnExactCheckAnswer.proved
end Go.Proofs.YtmfipefpmjcddaaGreatDoor
