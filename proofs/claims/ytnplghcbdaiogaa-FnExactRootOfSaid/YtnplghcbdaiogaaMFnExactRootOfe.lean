/- For the law FnExactRootOf (laid by merge.py). -/
import Derived.Test.YtnplghcbdaiogaaMFnExactRootOfd
import Derived.Laws.BitsLemmas
section
namespace Go.Proofs.Ytnplghcbdaiogaa.PA
open Go.RowKit Go.Proofs.YtnplghcbdaiogaaW.PrintWords Go.Proofs.YtnplghcbdaiogaaW.PrintLast Go.Proofs.YtnplghcbdaiogaaW.PrintMore
attribute [local go_sem] max2_int min2_int max_two min_two max_three min_three max_four min_four
set_option linter.unusedVariables false
set_option linter.unusedSimpArgs false
set_option maxHeartbeats 60000000
set_option maxRecDepth 100000
def spec_l6Digest.f (k : Nat) (l0_0 : List ByteArray) (l0_1 : List ByteArray) (l0_2 : List ByteArray) (a0_3 : Int) : Option (ByteArray) := (spec_l6Bytes.f k l0_0 l0_1 l0_2 a0_3).bind fun t10 => ((spec_l1Digest.f k 103 t10).bind fun t11 => (some t11))
theorem spec_l6Digest.calls (k : Nat) (A0_0 : Option Addr) (c0_0 : Nat) (l0_0 : List ByteArray) (A0_1 : Option Addr) (c0_1 : Nat) (l0_1 : List ByteArray) (A0_2 : Option Addr) (c0_2 : Nat) (l0_2 : List ByteArray) (a0_3 : Int) (r : ByteArray) (w : World) (hr0_0 : Kd.C Kd.string w A0_0 l0_0.length l0_0) (hc0_0 : l0_0.length ≤ c0_0) (hr0_1 : Kd.C Kd.string w A0_1 l0_1.length l0_1) (hc0_1 : l0_1.length ≤ c0_1) (hr0_2 : Kd.C Kd.string w A0_2 l0_2.length l0_2) (hc0_2 : l0_2.length ≤ c0_2) (h : spec_l6Digest.f k l0_0 l0_1 l0_2 a0_3 = some r) :
  Calls Try.prog 24 #[.agg #[.slice A0_0 l0_0.length c0_0, .slice A0_1 l0_1.length c0_1, .slice A0_2 l0_2.length c0_2, .int .i64 a0_3]] w fun e w' => e = .returned (.string r) ∧ Below w.heap.size w w' := by
 have hu43 := Try.underlying43; have HR0_0 := zA hr0_0; have HC0_0 := zA hc0_0; clear hr0_0 hc0_0; have HR0_1 := zA hr0_1; have HC0_1 := zA hc0_1; clear hr0_1 hc0_1; have HR0_2 := zA hr0_2; have HC0_2 := zA hc0_2; clear hr0_2 hc0_2; have HB := zA (Below.refl w.heap.size w); have H : ((spec_l6Bytes.f k l0_0 l0_1 l0_2 a0_3).bind fun t10 => ((spec_l1Digest.f k 103 t10).bind fun t11 => (some t11))) = some r := h; clear h; replace H := zAF H; obtain ⟨t10, A20, H⟩ := H; replace H : ((spec_l1Digest.f k 103 t10).bind fun t11 => (some t11)) = some r := H; have A2 := zA A20; clear A20; replace H := zAF H; obtain ⟨t11, A30, H⟩ := H; replace H : (some t11) = some r := H; have A3 := zA A30; clear A30; obtain rfl := yM H; go_enter Try.func24, Try.ntmps24; go_wp2_with (first | ((with_reducible refine gate_dst (N := 1) rfl ?_); refine box_event ?hg (N := 1) ?hd (cs := #[.slice A0_0 l0_0.length c0_0, .slice A0_1 l0_1.length c0_1, .slice A0_2 l0_2.length c0_2, .int .i64 a0_3]) (t := 43) ?hr ?_; (case hd => rfl); (case hg => rfl); (case hr => first | (go_simp; done) | (go_simp; rfl)); intro gb12 hg w4 hbox hb; have n0_ := zA (zAD (by (with_reducible repeat first | exact HB.out | apply zH | apply zF | apply zG) <;> exact HB.out) hb); have n1_ := zA (hbox); have n2_ := zA ((by rw [hg]; exact (zAE (by (with_reducible repeat first | exact HB.out | apply zH | apply zF | apply zG) <;> exact HB.out)) : w.heap.size ≤ gb12)); have n3_ := zA ((by rw [hg]; exact (zAE (by (with_reducible repeat first | exact HB.out | apply zH | apply zF | apply zG) <;> exact HB.out)) : w.heap.size ≤ gb12)); clear HB; have HB := n0_; have BK12 := n1_; have GW12 := n2_; have GE12 := n3_; clear n0_ n1_ n2_ n3_; clear hb hbox hg; have hcz5_0 := yL BK12.out 0 (.slice A0_0 l0_0.length c0_0) rfl; have hcz5_1 := yL BK12.out 1 (.slice A0_1 l0_1.length c0_1) rfl; have hcz5_2 := yL BK12.out 2 (.slice A0_2 l0_2.length c0_2) rfl; have hcz5_3 := yL BK12.out 3 (.int .i64 a0_3) rfl; have hfz5_0 := zO BK12.out 0; have hfz5_1 := zO BK12.out 1; have hfz5_2 := zO BK12.out 2; have hfz5_3 := zO BK12.out 3) | ((with_reducible refine yB (f := 59) rfl ?_); refine goesL_ (some 4) rfl rfl Try.func59 (by kernel_rfl) rfl #[.agg #[.slice A0_0 l0_0.length c0_0, .slice A0_1 l0_1.length c0_1, .slice A0_2 l0_2.length c0_2, .int .i64 a0_3]] rfl (by (try simp only [zAA, zAB, zAC]); first | done | rfl | (simp only [zZ, zY]; rfl)) ?_; (with_reducible refine (spec_l6Bytes.calls k _ _ l0_0 _ _ l0_1 _ _ l0_2 a0_3 t10 _ ?side1 ?side2 ?side3 ?side4 ?side5 ?side6 A2.out).mono ?_); (case side1 => repeat (first | exact (yN HR0_0.out HB.out) | (with_reducible first | refine zT ?_ _ | refine zU ?_ _ | refine zV ?_))); (case side2 => exact HC0_0.out); (case side3 => repeat (first | exact (yN HR0_1.out HB.out) | (with_reducible first | refine zT ?_ _ | refine zU ?_ _ | refine zV ?_))); (case side4 => exact HC0_1.out); (case side5 => repeat (first | exact (yN HR0_2.out HB.out) | (with_reducible first | refine zT ?_ _ | refine zU ?_ _ | refine zV ?_))); (case side6 => exact HC0_2.out); rintro e w6 ⟨rfl, hb⟩; refine ⟨_, rfl, ?_⟩; have n0_ := zA (yE (g := gb12) (o := .cells #[.slice A0_0 l0_0.length c0_0, .slice A0_1 l0_1.length c0_1, .slice A0_2 l0_2.length c0_2, .int .i64 a0_3] 43 (0, 0)) (by (with_reducible repeat (first | refine zL ?_ _ | refine zN ?_ | refine zM ?_ _)); exact BK12.out) hb); have n1_ := zA (zAD (by repeat (first | (with_reducible first | exact HB.out | apply zH | apply zF | apply zG | refine zI ?_ GE12.out) | exact HB.out)) hb); clear BK12; clear HB; have BK12 := n0_; have HB := n1_; clear n0_ n1_; (try clear hb)) | ((with_reducible refine yB (f := 58) rfl ?_); refine goesL_ (some 5) rfl rfl Try.func58 (by kernel_rfl) rfl #[.int .u8 103, .string t10] rfl (by (try simp only [zAA, zAB, zAC]); first | done | rfl) ?_; (with_reducible refine (spec_l1Digest.calls k 103 t10 t11 _ A3.out).mono ?_); rintro e w7 ⟨rfl, hb⟩; refine ⟨_, rfl, ?_⟩; have n0_ := zA (yE (g := gb12) (o := .cells #[.slice A0_0 l0_0.length c0_0, .slice A0_1 l0_1.length c0_1, .slice A0_2 l0_2.length c0_2, .int .i64 a0_3] 43 (0, 0)) (by (with_reducible repeat (first | refine zL ?_ _ | refine zN ?_ | refine zM ?_ _)); exact BK12.out) hb); have n1_ := zA (zAD (by repeat (first | (with_reducible first | exact HB.out | apply zH | apply zF | apply zG | refine zI ?_ GE12.out) | exact HB.out)) hb); clear BK12; clear HB; have BK12 := n0_; have HB := n1_; clear n0_ n1_; (try clear hb))); go_ret; exact ⟨by first | rfl | (simp <;> rfl) | (simp [*] <;> rfl), by repeat (first | (with_reducible first | exact HB.out | apply zH | apply zF | apply zG | refine zI ?_ GE12.out) | exact HB.out)⟩
mutual
def spec_l6Shown.l0 : Nat → List (S95) → Int → Int → List ByteArray → List ByteArray → List ByteArray → Int → Option (List ByteArray × List ByteArray × List ByteArray × Int)
 | 0, _, _, _, _, _, _, _ => none
 | k + 1, x22, x23, x24, x10, x11, x12, x13 => if x24 < x23 then (if 0 ≤ x24 then (if x24 < (x22.length : Int) then ((spec_l6Shown.f k (rd_N95 x22 x24)).bind fun bt14 => ((spec_l6Digest.f k bt14.1 bt14.2.1 bt14.2.2.1 bt14.2.2.2).bind fun t15 => (if x12.length < 8796093022208 then (spec_l6Shown.l0 k x22 x23 (wrap64 (x24 + 1)) x10 x11 (x12 ++ [t15]) x13) else (none)))) else (none)) else (none)) else (some (x10, x11, x12, x13))
def spec_l6Shown.f : Nat → S95 → Option (List ByteArray × List ByteArray × List ByteArray × Int)
 | 0, _ => none
 | k + 1, a0 => (some (([] : List ByteArray) : List ByteArray)).bind fun y16 => (if y16.length + a0.f0.length < 8796093022208 then ((some (([] : List ByteArray) : List ByteArray)).bind fun y17 => (if y17.length + a0.f1.length < 8796093022208 then (spec_l6Shown.l0 k a0.f2 (a0.f2.length : Int) 0 (y16 ++ a0.f0) (y17 ++ a0.f1) ([] : List ByteArray) 0) else (none))) else (none))
end
def spec_l6Shown.T1 : Bool × List (List Nat × List Nat) := (true, [([], []), ([], []), ([1], [1]), ([2], [2]), ([3], [3]), ([0, 4], [0, 4]), ([], []), ([], []), ([7], [7]), ([8], [8]), ([9], [9]), ([6, 10, 5], [6, 10]), ([5, 11], [5, 11]), ([], []), ([13, 12, 11, 0, 1, 2, 3, 4, 5, 6, 7, 8, 9, 10, 11, 12, 13], [12, 13])])
def spec_l6Shown.B1 : List Nat := [0, 0, 2, 6, 14, 31, 0, 0, 128, 384, 896, 2047, 4095, 0, 16383]
theorem spec_l6Shown.tab1 : rtab .any (opsOf Try.f25 1) = spec_l6Shown.T1 := by kernel_rfl
theorem spec_l6Shown.bits1 : waitsOk spec_l6Shown.T1.2 spec_l6Shown.B1 = true := by kernel_rfl
def spec_l6Shown.T5 : Bool × List (List Nat × List Nat) := (true, [([], []), ([0], [0]), ([], []), ([2], [2]), ([3, 3], [3]), ([4], [4]), ([1, 5, 4], [1, 5]), ([0, 1, 2, 3, 4, 5, 6], []), ([7, 6, 6, 0, 1, 2, 3, 4, 5, 6], [6, 7])])
def spec_l6Shown.B5 : List Nat := [0, 1, 0, 4, 12, 28, 63, 127, 255]
theorem spec_l6Shown.tab5 : rtab .any (opsOf Try.f25 5) = spec_l6Shown.T5 := by kernel_rfl
theorem spec_l6Shown.bits5 : waitsOk spec_l6Shown.T5.2 spec_l6Shown.B5 = true := by kernel_rfl
theorem spec_l6Shown.calls (k : Nat) : ∀ (a0 : S95) (r1 : List ByteArray) (r2 : List ByteArray) (r3 : List ByteArray) (r4 : Int) (w : World) (hr0 : k95p.K w a0 [.pointer (some ⟨a0.adr, 0, none⟩)]) (h : spec_l6Shown.f k a0 = some (r1, r2, r3, r4)),
  Calls Try.prog 25 #[.pointer (some ⟨a0.adr, 0, none⟩)] w fun e w' => ∃ v0_ v1_ v2_ : Value, e = .returned (.agg #[v0_, v1_, v2_, .int .i64 r4]) ∧ Kd.R Kd.string 9 w' w.heap.size (fun k_ => some k_ ≠ (v1_ : Value).ownBlock ∧ some k_ ≠ (v2_ : Value).ownBlock) v0_ r1 ∧ Kd.R Kd.string 9 w' w.heap.size (fun k_ => some k_ ≠ (v0_ : Value).ownBlock ∧ some k_ ≠ (v2_ : Value).ownBlock) v1_ r2 ∧ Kd.R Kd.string 9 w' w.heap.size (fun k_ => some k_ ≠ (v0_ : Value).ownBlock ∧ some k_ ≠ (v1_ : Value).ownBlock) v2_ r3 ∧ Below w.heap.size w w' := by
 induction k using Nat.strongRecOn with
 | _ k ih =>
 intro a0 r1 r2 r3 r4 w hr0 h
 cases k with
 | zero => exact absurd h (by simp [spec_l6Shown.f])
 | succ k =>
 simp only [spec_l6Shown.f] at h; have hu43 := Try.underlying43; have hu95 := Try.underlying95; have hu54 := Try.underlying54; have HR0 := zA hr0; clear hr0; obtain ⟨An0_0, cn0_0, An0_1, cn0_1, An0_2, cn0_2, hsn0_0, hsn0_1, hsn0_2, hln0_0, hin0_0, hln0_1, hin0_1, hln0_2, hin0_2⟩ := at_P95 HR0.out; have HXn0_0 := zA hsn0_0; have HRn0_0 := zA hin0_0; have HCn0_0 := zA hln0_0; have HXn0_1 := zA hsn0_1; have HRn0_1 := zA hin0_1; have HCn0_1 := zA hln0_1; have HXn0_2 := zA hsn0_2; have HRn0_2 := zA hin0_2; have HCn0_2 := zA hln0_2; clear hsn0_0 hin0_0 hln0_0 hsn0_1 hin0_1 hln0_1 hsn0_2 hin0_2 hln0_2; have HB := zA (Below.refl w.heap.size w); have H : ((some (([] : List ByteArray) : List ByteArray)).bind fun y41 => (if y41.length + a0.f0.length < 8796093022208 then ((some (([] : List ByteArray) : List ByteArray)).bind fun y42 => (if y42.length + a0.f1.length < 8796093022208 then (spec_l6Shown.l0 k a0.f2 (a0.f2.length : Int) 0 (y41 ++ a0.f0) (y42 ++ a0.f1) ([] : List ByteArray) 0) else (none))) else (none))) = some (r1, r2, r3, r4) := h; clear h; obtain ⟨y41, hy41⟩ : ∃ y_ : List ByteArray, y_ = (([] : List ByteArray)) := ⟨_, rfl⟩; replace H : (if y41.length + a0.f0.length < 8796093022208 then ((some (([] : List ByteArray) : List ByteArray)).bind fun y42 => (if y42.length + a0.f1.length < 8796093022208 then (spec_l6Shown.l0 k a0.f2 (a0.f2.length : Int) 0 (y41 ++ a0.f0) (y42 ++ a0.f1) ([] : List ByteArray) 0) else (none))) else (none)) = some (r1, r2, r3, r4) := by first | (rw [hy41]; with_reducible exact H) | (have H2_ := (Option.bind_some _ _).symm.trans H; rw [hy41]; with_reducible exact H2_) | (have H2_ := (Option.bind_some _ _).symm.trans H; with_reducible exact H2_) | with_reducible exact H | (rw [hy41]; exact H) | exact H
 have Ny41 := zA hy41; clear hy41
 by_cases c2 : y41.length + a0.f0.length < 8796093022208
 ·rw [if_pos c2] at H
  have LMc2 := zA c2; clear c2; obtain ⟨y44, hy44⟩ : ∃ y_ : List ByteArray, y_ = (y41 ++ a0.f0) := ⟨_, rfl⟩; replace H : ((some (([] : List ByteArray) : List ByteArray)).bind fun y42 => (if y42.length + a0.f1.length < 8796093022208 then (spec_l6Shown.l0 k a0.f2 (a0.f2.length : Int) 0 y44 (y42 ++ a0.f1) ([] : List ByteArray) 0) else (none))) = some (r1, r2, r3, r4) := by first | (rw [hy44]; with_reducible exact H) | (have H2_ := (Option.bind_some _ _).symm.trans H; rw [hy44]; with_reducible exact H2_) | (have H2_ := (Option.bind_some _ _).symm.trans H; with_reducible exact H2_) | with_reducible exact H | (rw [hy44]; exact H) | exact H
  have Ny44 := zA hy44; clear hy44; obtain ⟨y42, hy42⟩ : ∃ y_ : List ByteArray, y_ = (([] : List ByteArray)) := ⟨_, rfl⟩; replace H : (if y42.length + a0.f1.length < 8796093022208 then (spec_l6Shown.l0 k a0.f2 (a0.f2.length : Int) 0 y44 (y42 ++ a0.f1) ([] : List ByteArray) 0) else (none)) = some (r1, r2, r3, r4) := by first | (rw [hy42]; with_reducible exact H) | (have H2_ := (Option.bind_some _ _).symm.trans H; rw [hy42]; with_reducible exact H2_) | (have H2_ := (Option.bind_some _ _).symm.trans H; with_reducible exact H2_) | with_reducible exact H | (rw [hy42]; exact H) | exact H
  have Ny42 := zA hy42; clear hy42
  by_cases c3 : y42.length + a0.f1.length < 8796093022208
  ·rw [if_pos c3] at H
   have LMc3 := zA c3; clear c3; obtain ⟨y45, hy45⟩ : ∃ y_ : List ByteArray, y_ = (y42 ++ a0.f1) := ⟨_, rfl⟩; replace H : (spec_l6Shown.l0 k a0.f2 (a0.f2.length : Int) 0 y44 y45 ([] : List ByteArray) 0) = some (r1, r2, r3, r4) := by first | (rw [hy45]; with_reducible exact H) | (have H2_ := (Option.bind_some _ _).symm.trans H; rw [hy45]; with_reducible exact H2_) | (have H2_ := (Option.bind_some _ _).symm.trans H; with_reducible exact H2_) | with_reducible exact H | (rw [hy45]; exact H) | exact H
   have Ny45 := zA hy45; clear hy45; have H' := zA H; clear H; go_enter Try.func25, Try.ntmps25
   try go_wp2_with (first | ((with_reducible refine gate_dst (N := 2) rfl ?_); refine box_event ?hg (N := 2) ?hd (cs := #[.slice none 0 0, .slice none 0 0, .slice none 0 0, .int .i64 0]) (t := 43) ?hr ?_; (case hd => rfl); (case hg => rfl); (case hr => first | (go_simp; done) | (go_simp; rfl)); intro gb46 hg w4 hbox hb; have n0_ := zA (zAD (by (with_reducible repeat first | exact HB.out | apply zH | apply zF | apply zG) <;> exact HB.out) hb); have n1_ := zA (hbox); have n2_ := zA ((by rw [hg]; exact (zAE (by (with_reducible repeat first | exact HB.out | apply zH | apply zF | apply zG) <;> exact HB.out)) : w.heap.size ≤ gb46)); have n3_ := zA ((by rw [hg]; exact (zAE (by (with_reducible repeat first | exact HB.out | apply zH | apply zF | apply zG) <;> exact HB.out)) : w.heap.size ≤ gb46)); clear HB; have HB := n0_; have BK46 := n1_; have GW46 := n2_; have GE46 := n3_; clear n0_ n1_ n2_ n3_; clear hb hbox hg))
   have n0_ := zA (zN BK46.out); have n1_ := zA (zG HB.out); clear BK46 HB; have BK46 := n0_; have HB := n1_; clear n0_ n1_; have hx47_0 := HXn0_0.out; have hw47_0 := hx47_0; (try rw [show ((0 : Int)).toNat = 0 from rfl] at hw47_0); (try rw [show 0 * 3 = 0 from rfl] at hw47_0); (try rw [Addr.add_zero'] at hw47_0); have hx47_1 := HXn0_1.out; have hw47_1 := hx47_1; (try rw [show ((0 : Int)).toNat = 0 from rfl] at hw47_1); (try rw [show 0 * 3 = 0 from rfl] at hw47_1); (try rw [Addr.add_zero'] at hw47_1); have hx47_2 := HXn0_2.out; have hw47_2 := hx47_2; (try rw [show ((0 : Int)).toNat = 0 from rfl] at hw47_2); (try rw [show 0 * 3 = 0 from rfl] at hw47_2); (try rw [Addr.add_zero'] at hw47_2); replace hx47_0 := (HB.out.cell (zB w _ hx47_0)).trans hx47_0; replace hx47_1 := (HB.out.cell (zB w _ hx47_1)).trans hx47_1; replace hx47_2 := (HB.out.cell (zB w _ hx47_2)).trans hx47_2; have hx48_0 := HXn0_0.out; have hw48_0 := hx48_0; (try rw [show ((0 : Int)).toNat = 0 from rfl] at hw48_0); (try rw [show 0 * 3 = 0 from rfl] at hw48_0); (try rw [Addr.add_zero'] at hw48_0); have hx48_1 := HXn0_1.out; have hw48_1 := hx48_1; (try rw [show ((0 : Int)).toNat = 0 from rfl] at hw48_1); (try rw [show 0 * 3 = 0 from rfl] at hw48_1); (try rw [Addr.add_zero'] at hw48_1); have hx48_2 := HXn0_2.out; have hw48_2 := hx48_2; (try rw [show ((0 : Int)).toNat = 0 from rfl] at hw48_2); (try rw [show 0 * 3 = 0 from rfl] at hw48_2); (try rw [Addr.add_zero'] at hw48_2); replace hx48_0 := (HB.out.cell (zB w _ hx48_0)).trans hx48_0; replace hx48_1 := (HB.out.cell (zB w _ hx48_1)).trans hx48_1; replace hx48_2 := (HB.out.cell (zB w _ hx48_2)).trans hx48_2; refine start_ (n := 15) (S := fun w' => w'.cell? ⟨a0.adr, 0, none⟩ = some (.slice An0_0 a0.f0.length cn0_0) ∧ w'.cell? ⟨a0.adr, 1, none⟩ = some (.slice An0_1 a0.f1.length cn0_1) ∧ w'.cell? ⟨a0.adr, 2, none⟩ = some (.slice An0_2 a0.f2.length cn0_2) ∧ w'.cell? ⟨a0.adr, 0, none⟩ = some (.slice An0_0 a0.f0.length cn0_0) ∧ w'.cell? ⟨a0.adr, 1, none⟩ = some (.slice An0_1 a0.f1.length cn0_1) ∧ w'.cell? ⟨a0.adr, 2, none⟩ = some (.slice An0_2 a0.f2.length cn0_2)) (ds := []) #[false, false, false, false, false, false, false, false, false, false, false, false, false, false, false] (by kernel_rfl) rfl rfl ⟨((HB.out.cell (zB w _ hw47_0)).trans hw47_0), ((HB.out.cell (zB w _ hw47_1)).trans hw47_1), ((HB.out.cell (zB w _ hw47_2)).trans hw47_2), ((HB.out.cell (zB w _ hw48_0)).trans hw48_0), ((HB.out.cell (zB w _ hw48_1)).trans hw48_1), ((HB.out.cell (zB w _ hw48_2)).trans hw48_2)⟩ (fun hHeld => ?_); refine with_tabW spec_l6Shown.tab1 spec_l6Shown.bits1 (fun HT_ HW_ => ?_); generalize w4.drew = w5 at BK46 HB hx47_0 hx47_1 hx47_2 hx48_0 hx48_1 hx48_2 hHeld ⊢; refine pure_ (i := 1) (N := some 7) (v := ?_) (a' := ?_) #[false, true, false, false, false, false, false, false, false, false, false, false, false, false, false] rfl rfl (any_of HT_.out (by kernel_rfl)) (fun _ _ _ h => h) (Or.inl ⟨by rfl, ?_⟩) ?_ ?_; rotate_left
   ·intro w'
    go_simp
    with_reducible rfl
   rotate_left
   ·simp only [Act.put, zC, zD, zE, i64_w]
    rfl
   refine pure_ (i := 2) (N := some 8) (v := ?_) (a' := ?_) #[false, true, true, false, false, false, false, false, false, false, false, false, false, false, false] rfl rfl (any_of HT_.out (by kernel_rfl)) (fun _ _ _ h => h) (Or.inl ⟨by rfl, ?_⟩) ?_ ?_; rotate_left
   ·intro w'
    go_simp
    with_reducible rfl
   rotate_left
   ·simp only [Act.put, zC, zD, zE, i64_w]
    rfl
   refine pure_ (i := 3) (N := some 9) (v := ?_) (a' := ?_) #[false, true, true, true, false, false, false, false, false, false, false, false, false, false, false] rfl rfl (any_of HT_.out (by kernel_rfl)) (fun _ _ _ h => h) (Or.inl ⟨by rfl, ?_⟩) ?_ ?_; rotate_left
   ·intro w'
    go_simp
    with_reducible rfl
   rotate_left
   ·simp only [Act.put, zC, zD, zE, i64_w]
    rfl
   refine pure_ (i := 7) (N := some 13) (v := ?_) (a' := ?_) #[false, true, true, true, false, false, false, true, false, false, false, false, false, false, false] rfl rfl (any_of HT_.out (by kernel_rfl)) (fun _ _ _ h => h) (Or.inl ⟨by rfl, ?_⟩) ?_ ?_; rotate_left
   ·intro w'
    go_simp
    with_reducible rfl
   rotate_left
   ·simp only [Act.put, zC, zD, zE, i64_w]
    rfl
   refine pure_ (i := 8) (N := some 14) (v := ?_) (a' := ?_) #[false, true, true, true, false, false, false, true, true, false, false, false, false, false, false] rfl rfl (any_of HT_.out (by kernel_rfl)) (fun _ _ _ h => h) (Or.inl ⟨by rfl, ?_⟩) ?_ ?_; rotate_left
   ·intro w'
    go_simp
    with_reducible rfl
   rotate_left
   ·simp only [Act.put, zC, zD, zE, i64_w]
    rfl
   refine pure_ (i := 9) (N := some 15) (v := ?_) (a' := ?_) #[false, true, true, true, false, false, false, true, true, true, false, false, false, false, false] rfl rfl (any_of HT_.out (by kernel_rfl)) (fun _ _ _ h => h) (Or.inl ⟨by rfl, ?_⟩) ?_ ?_; rotate_left
   ·intro w'
    go_simp
    with_reducible rfl
   rotate_left
   ·simp only [Act.put, zC, zD, zE, i64_w]
    rfl
   refine take_ (i := 4) (N := some 10) (v := ?_) (a' := ?_) #[false, true, true, true, true, false, false, true, true, true, false, false, false, false, false] rfl rfl (take_ofW HT_.out HW_.out (by kernel_rfl)) (fun _ _ _ h => h) (Or.inl ⟨by rfl, ?_⟩) hHeld ?_ ?_; rotate_left
   ·rintro w' ⟨s0, s1, s2, s3, s4, s5⟩
    go_simp
    with_reducible rfl
   rotate_left
   ·simp only [Act.put, zC, zD, zE, i64_w]
    rfl
   refine take_ (i := 10) (N := some 16) (v := ?_) (a' := ?_) #[false, true, true, true, true, false, false, true, true, true, true, false, false, false, false] rfl rfl (take_ofW HT_.out HW_.out (by kernel_rfl)) (fun _ _ _ h => h) (Or.inl ⟨by rfl, ?_⟩) hHeld ?_ ?_; rotate_left
   ·rintro w' ⟨s0, s1, s2, s3, s4, s5⟩
    go_simp
    with_reducible rfl
   rotate_left
   ·simp only [Act.put, zC, zD, zE, i64_w]
    rfl
   refine join_ (σ := Value × Value × Value × Value × Nat) 1 #[true, true, true, true, true, true, true, true, true, true, true, true, true, true, false] (fun s_ => [(6, s_.1), (11, s_.2.1), (12, s_.2.2.1), (17, s_.2.2.2.1), (3, .pointer (some ⟨s_.2.2.2.2, 0, none⟩)), (18, .agg #[s_.2.1, s_.2.2.2.1, .slice none 0 0, .int .i64 0])]) (fun s_ w' => (w'.cell? ⟨a0.adr, 0, none⟩ = some (.slice An0_0 a0.f0.length cn0_0) ∧ w'.cell? ⟨a0.adr, 1, none⟩ = some (.slice An0_1 a0.f1.length cn0_1) ∧ w'.cell? ⟨a0.adr, 2, none⟩ = some (.slice An0_2 a0.f2.length cn0_2) ∧ w'.cell? ⟨a0.adr, 0, none⟩ = some (.slice An0_0 a0.f0.length cn0_0) ∧ w'.cell? ⟨a0.adr, 1, none⟩ = some (.slice An0_1 a0.f1.length cn0_1) ∧ w'.cell? ⟨a0.adr, 2, none⟩ = some (.slice An0_2 a0.f2.length cn0_2)) ∧ (Kd.R Kd.string 9 w' w.heap.size (fun k_ => some k_ ≠ (s_.2.2.2.1 : Value).ownBlock) s_.2.1 y44) ∧ (Kd.R Kd.string 9 w' w.heap.size (fun k_ => some k_ ≠ (s_.2.1 : Value).ownBlock) s_.2.2.2.1 y45) ∧ (w'.heap[gb46]? = some (.cells #[.slice none 0 0, .slice none 0 0, .slice none 0 0, .int .i64 0] 43 (0, 0))) ∧ (w'.heap[s_.2.2.2.2]? = some (.cells #[.slice none 0 0, .slice none 0 0, .slice none 0 0, .int .i64 0] 43 (0, 0))) ∧ (w.heap.size ≤ s_.2.2.2.2) ∧ (w.heap.size ≤ s_.2.2.2.2) ∧ (gb46 ≠ s_.2.2.2.2) ∧ (s_.2.2.2.2 ≠ gb46) ∧ (Below w.heap.size w w')) ?_ ?_; rotate_left
   ·intro hJ0_5_6_11_13
    refine join_ (σ := Value × Value × Value × Value) 2 #[true, true, true, true, true, true, true, true, true, true, true, true, true, false, false] (fun s_ => [(6, s_.1), (11, s_.2.1), (12, s_.2.2.1), (17, s_.2.2.2), (18, .agg #[s_.2.1, s_.2.2.2, .slice none 0 0, .int .i64 0])]) (fun s_ w' => (w'.cell? ⟨a0.adr, 0, none⟩ = some (.slice An0_0 a0.f0.length cn0_0) ∧ w'.cell? ⟨a0.adr, 1, none⟩ = some (.slice An0_1 a0.f1.length cn0_1) ∧ w'.cell? ⟨a0.adr, 2, none⟩ = some (.slice An0_2 a0.f2.length cn0_2) ∧ w'.cell? ⟨a0.adr, 0, none⟩ = some (.slice An0_0 a0.f0.length cn0_0) ∧ w'.cell? ⟨a0.adr, 1, none⟩ = some (.slice An0_1 a0.f1.length cn0_1) ∧ w'.cell? ⟨a0.adr, 2, none⟩ = some (.slice An0_2 a0.f2.length cn0_2)) ∧ (Kd.R Kd.string 9 w' w.heap.size (fun k_ => some k_ ≠ (s_.2.2.2 : Value).ownBlock) s_.2.1 y44) ∧ (Kd.R Kd.string 9 w' w.heap.size (fun k_ => some k_ ≠ (s_.2.1 : Value).ownBlock) s_.2.2.2 y45) ∧ (w'.heap[gb46]? = some (.cells #[.slice none 0 0, .slice none 0 0, .slice none 0 0, .int .i64 0] 43 (0, 0))) ∧ (Below w.heap.size w w')) ?_ ?_; rotate_left
    ·intro hJ0_5_6_11
     refine join_ (σ := Value × Value × Value × Nat) 3 #[true, true, true, true, true, true, true, true, true, true, true, false, false, true, false] (fun s_ => [(6, s_.1), (11, s_.2.1), (12, s_.2.2.1), (3, .pointer (some ⟨s_.2.2.2, 0, none⟩))]) (fun s_ w' => (w'.cell? ⟨a0.adr, 0, none⟩ = some (.slice An0_0 a0.f0.length cn0_0) ∧ w'.cell? ⟨a0.adr, 1, none⟩ = some (.slice An0_1 a0.f1.length cn0_1) ∧ w'.cell? ⟨a0.adr, 2, none⟩ = some (.slice An0_2 a0.f2.length cn0_2) ∧ w'.cell? ⟨a0.adr, 0, none⟩ = some (.slice An0_0 a0.f0.length cn0_0) ∧ w'.cell? ⟨a0.adr, 1, none⟩ = some (.slice An0_1 a0.f1.length cn0_1) ∧ w'.cell? ⟨a0.adr, 2, none⟩ = some (.slice An0_2 a0.f2.length cn0_2)) ∧ (Kd.R Kd.string 9 w' w.heap.size (fun k_ => some k_ ≠ (s_.2.2.1 : Value).ownBlock) s_.2.1 y44) ∧ (Kd.R Kd.string 9 w' w.heap.size (fun k_ => some k_ ≠ (s_.2.1 : Value).ownBlock) s_.2.2.1 y42) ∧ (w'.heap[gb46]? = some (.cells #[.slice none 0 0, .slice none 0 0, .slice none 0 0, .int .i64 0] 43 (0, 0))) ∧ (w'.heap[s_.2.2.2]? = some (.cells #[.slice none 0 0, .slice none 0 0, .slice none 0 0, .int .i64 0] 43 (0, 0))) ∧ (w.heap.size ≤ s_.2.2.2) ∧ (w.heap.size ≤ s_.2.2.2) ∧ (gb46 ≠ s_.2.2.2) ∧ (s_.2.2.2 ≠ gb46) ∧ (Below w.heap.size w w')) ?_ ?_; rotate_left
     ·intro hJ0_5_6_13
      refine join_ (σ := Value × Value × Value) 4 #[true, true, true, true, true, true, true, true, true, true, true, false, false, false, false] (fun s_ => [(6, s_.1), (11, s_.2.1), (12, s_.2.2)]) (fun s_ w' => (w'.cell? ⟨a0.adr, 0, none⟩ = some (.slice An0_0 a0.f0.length cn0_0) ∧ w'.cell? ⟨a0.adr, 1, none⟩ = some (.slice An0_1 a0.f1.length cn0_1) ∧ w'.cell? ⟨a0.adr, 2, none⟩ = some (.slice An0_2 a0.f2.length cn0_2) ∧ w'.cell? ⟨a0.adr, 0, none⟩ = some (.slice An0_0 a0.f0.length cn0_0) ∧ w'.cell? ⟨a0.adr, 1, none⟩ = some (.slice An0_1 a0.f1.length cn0_1) ∧ w'.cell? ⟨a0.adr, 2, none⟩ = some (.slice An0_2 a0.f2.length cn0_2)) ∧ (Kd.R Kd.string 9 w' w.heap.size (fun k_ => some k_ ≠ (s_.2.2 : Value).ownBlock) s_.2.1 y44) ∧ (Kd.R Kd.string 9 w' w.heap.size (fun k_ => some k_ ≠ (s_.2.1 : Value).ownBlock) s_.2.2 y42) ∧ (w'.heap[gb46]? = some (.cells #[.slice none 0 0, .slice none 0 0, .slice none 0 0, .int .i64 0] 43 (0, 0))) ∧ (Below w.heap.size w w')) ?_ ?_; rotate_left
      ·intro hJ0_5_6
       refine join_ (σ := Value × Value × Nat) 4 #[true, true, true, true, true, true, false, true, true, true, true, false, false, true, false] (fun s_ => [(6, s_.1), (11, s_.2.1), (3, .pointer (some ⟨s_.2.2, 0, none⟩))]) (fun s_ w' => (w'.cell? ⟨a0.adr, 0, none⟩ = some (.slice An0_0 a0.f0.length cn0_0) ∧ w'.cell? ⟨a0.adr, 1, none⟩ = some (.slice An0_1 a0.f1.length cn0_1) ∧ w'.cell? ⟨a0.adr, 2, none⟩ = some (.slice An0_2 a0.f2.length cn0_2) ∧ w'.cell? ⟨a0.adr, 0, none⟩ = some (.slice An0_0 a0.f0.length cn0_0) ∧ w'.cell? ⟨a0.adr, 1, none⟩ = some (.slice An0_1 a0.f1.length cn0_1) ∧ w'.cell? ⟨a0.adr, 2, none⟩ = some (.slice An0_2 a0.f2.length cn0_2)) ∧ (Kd.R Kd.string 9 w' w.heap.size (fun _ => True) s_.2.1 y44) ∧ (w'.heap[gb46]? = some (.cells #[.slice none 0 0, .slice none 0 0, .slice none 0 0, .int .i64 0] 43 (0, 0))) ∧ (w'.heap[s_.2.2]? = some (.cells #[.slice none 0 0, .slice none 0 0, .slice none 0 0, .int .i64 0] 43 (0, 0))) ∧ (w.heap.size ≤ s_.2.2) ∧ (w.heap.size ≤ s_.2.2) ∧ (gb46 ≠ s_.2.2) ∧ (s_.2.2 ≠ gb46) ∧ (Below w.heap.size w w')) ?_ ?_; rotate_left
       ·intro hJ0_5_13
        refine join_ (σ := Value × Value × Nat) 4 #[true, true, true, true, true, false, true, true, true, true, true, false, false, true, false] (fun s_ => [(6, s_.1), (12, s_.2.1), (3, .pointer (some ⟨s_.2.2, 0, none⟩))]) (fun s_ w' => (w'.cell? ⟨a0.adr, 0, none⟩ = some (.slice An0_0 a0.f0.length cn0_0) ∧ w'.cell? ⟨a0.adr, 1, none⟩ = some (.slice An0_1 a0.f1.length cn0_1) ∧ w'.cell? ⟨a0.adr, 2, none⟩ = some (.slice An0_2 a0.f2.length cn0_2) ∧ w'.cell? ⟨a0.adr, 0, none⟩ = some (.slice An0_0 a0.f0.length cn0_0) ∧ w'.cell? ⟨a0.adr, 1, none⟩ = some (.slice An0_1 a0.f1.length cn0_1) ∧ w'.cell? ⟨a0.adr, 2, none⟩ = some (.slice An0_2 a0.f2.length cn0_2)) ∧ (Kd.R Kd.string 9 w' w.heap.size (fun k_ => some k_ ≠ (s_.2.1 : Value).ownBlock) s_.1 y41) ∧ (Kd.R Kd.string 9 w' w.heap.size (fun k_ => some k_ ≠ (s_.1 : Value).ownBlock) s_.2.1 y42) ∧ (w'.heap[gb46]? = some (.cells #[.slice none 0 0, .slice none 0 0, .slice none 0 0, .int .i64 0] 43 (0, 0))) ∧ (w'.heap[s_.2.2]? = some (.cells #[.slice none 0 0, .slice none 0 0, .slice none 0 0, .int .i64 0] 43 (0, 0))) ∧ (w.heap.size ≤ s_.2.2) ∧ (w.heap.size ≤ s_.2.2) ∧ (gb46 ≠ s_.2.2) ∧ (s_.2.2 ≠ gb46) ∧ (Below w.heap.size w w')) ?_ ?_; rotate_left
        ·intro hJ0_6_13
         refine join_ (σ := Value × Value) 5 #[true, true, true, true, true, true, false, true, true, true, true, false, false, false, false] (fun s_ => [(6, s_.1), (11, s_.2)]) (fun s_ w' => (w'.cell? ⟨a0.adr, 0, none⟩ = some (.slice An0_0 a0.f0.length cn0_0) ∧ w'.cell? ⟨a0.adr, 1, none⟩ = some (.slice An0_1 a0.f1.length cn0_1) ∧ w'.cell? ⟨a0.adr, 2, none⟩ = some (.slice An0_2 a0.f2.length cn0_2) ∧ w'.cell? ⟨a0.adr, 0, none⟩ = some (.slice An0_0 a0.f0.length cn0_0) ∧ w'.cell? ⟨a0.adr, 1, none⟩ = some (.slice An0_1 a0.f1.length cn0_1) ∧ w'.cell? ⟨a0.adr, 2, none⟩ = some (.slice An0_2 a0.f2.length cn0_2)) ∧ (Kd.R Kd.string 9 w' w.heap.size (fun _ => True) s_.2 y44) ∧ (w'.heap[gb46]? = some (.cells #[.slice none 0 0, .slice none 0 0, .slice none 0 0, .int .i64 0] 43 (0, 0))) ∧ (Below w.heap.size w w')) ?_ ?_; rotate_left
         ·intro hJ0_5
          refine join_ (σ := Value × Value) 5 #[true, true, true, true, true, false, true, true, true, true, true, false, false, false, false] (fun s_ => [(6, s_.1), (12, s_.2)]) (fun s_ w' => (w'.cell? ⟨a0.adr, 0, none⟩ = some (.slice An0_0 a0.f0.length cn0_0) ∧ w'.cell? ⟨a0.adr, 1, none⟩ = some (.slice An0_1 a0.f1.length cn0_1) ∧ w'.cell? ⟨a0.adr, 2, none⟩ = some (.slice An0_2 a0.f2.length cn0_2) ∧ w'.cell? ⟨a0.adr, 0, none⟩ = some (.slice An0_0 a0.f0.length cn0_0) ∧ w'.cell? ⟨a0.adr, 1, none⟩ = some (.slice An0_1 a0.f1.length cn0_1) ∧ w'.cell? ⟨a0.adr, 2, none⟩ = some (.slice An0_2 a0.f2.length cn0_2)) ∧ (Kd.R Kd.string 9 w' w.heap.size (fun k_ => some k_ ≠ (s_.2 : Value).ownBlock) s_.1 y41) ∧ (Kd.R Kd.string 9 w' w.heap.size (fun k_ => some k_ ≠ (s_.1 : Value).ownBlock) s_.2 y42) ∧ (w'.heap[gb46]? = some (.cells #[.slice none 0 0, .slice none 0 0, .slice none 0 0, .int .i64 0] 43 (0, 0))) ∧ (Below w.heap.size w w')) ?_ ?_; rotate_left
          ·intro hJ0_6
           refine join_ (σ := Value × Nat) 5 #[true, true, true, true, true, false, false, true, true, true, true, false, false, true, false] (fun s_ => [(6, s_.1), (3, .pointer (some ⟨s_.2, 0, none⟩))]) (fun s_ w' => (w'.cell? ⟨a0.adr, 0, none⟩ = some (.slice An0_0 a0.f0.length cn0_0) ∧ w'.cell? ⟨a0.adr, 1, none⟩ = some (.slice An0_1 a0.f1.length cn0_1) ∧ w'.cell? ⟨a0.adr, 2, none⟩ = some (.slice An0_2 a0.f2.length cn0_2) ∧ w'.cell? ⟨a0.adr, 0, none⟩ = some (.slice An0_0 a0.f0.length cn0_0) ∧ w'.cell? ⟨a0.adr, 1, none⟩ = some (.slice An0_1 a0.f1.length cn0_1) ∧ w'.cell? ⟨a0.adr, 2, none⟩ = some (.slice An0_2 a0.f2.length cn0_2)) ∧ (Kd.R Kd.string 9 w' w.heap.size (fun _ => True) s_.1 y41) ∧ (w'.heap[gb46]? = some (.cells #[.slice none 0 0, .slice none 0 0, .slice none 0 0, .int .i64 0] 43 (0, 0))) ∧ (w'.heap[s_.2]? = some (.cells #[.slice none 0 0, .slice none 0 0, .slice none 0 0, .int .i64 0] 43 (0, 0))) ∧ (w.heap.size ≤ s_.2) ∧ (w.heap.size ≤ s_.2) ∧ (gb46 ≠ s_.2) ∧ (s_.2 ≠ gb46) ∧ (Below w.heap.size w w')) ?_ ?_; rotate_left
           ·intro hJ0_13
            refine join_ (σ := Value × Nat) 5 #[false, true, true, true, true, false, true, true, true, true, true, false, false, true, false] (fun s_ => [(12, s_.1), (3, .pointer (some ⟨s_.2, 0, none⟩))]) (fun s_ w' => (w'.cell? ⟨a0.adr, 0, none⟩ = some (.slice An0_0 a0.f0.length cn0_0) ∧ w'.cell? ⟨a0.adr, 1, none⟩ = some (.slice An0_1 a0.f1.length cn0_1) ∧ w'.cell? ⟨a0.adr, 2, none⟩ = some (.slice An0_2 a0.f2.length cn0_2) ∧ w'.cell? ⟨a0.adr, 0, none⟩ = some (.slice An0_0 a0.f0.length cn0_0) ∧ w'.cell? ⟨a0.adr, 1, none⟩ = some (.slice An0_1 a0.f1.length cn0_1) ∧ w'.cell? ⟨a0.adr, 2, none⟩ = some (.slice An0_2 a0.f2.length cn0_2)) ∧ (Kd.R Kd.string 9 w' w.heap.size (fun _ => True) s_.1 y42) ∧ (w'.heap[gb46]? = some (.cells #[.slice none 0 0, .slice none 0 0, .slice none 0 0, .int .i64 0] 43 (0, 0))) ∧ (w'.heap[s_.2]? = some (.cells #[.slice none 0 0, .slice none 0 0, .slice none 0 0, .int .i64 0] 43 (0, 0))) ∧ (w.heap.size ≤ s_.2) ∧ (w.heap.size ≤ s_.2) ∧ (gb46 ≠ s_.2) ∧ (s_.2 ≠ gb46) ∧ (Below w.heap.size w w')) ?_ ?_; rotate_left
            ·intro hJ6_13
             refine join_ (σ := Value) 6 #[true, true, true, true, true, false, false, true, true, true, true, false, false, false, false] (fun s_ => [(6, s_)]) (fun s_ w' => (w'.cell? ⟨a0.adr, 0, none⟩ = some (.slice An0_0 a0.f0.length cn0_0) ∧ w'.cell? ⟨a0.adr, 1, none⟩ = some (.slice An0_1 a0.f1.length cn0_1) ∧ w'.cell? ⟨a0.adr, 2, none⟩ = some (.slice An0_2 a0.f2.length cn0_2) ∧ w'.cell? ⟨a0.adr, 0, none⟩ = some (.slice An0_0 a0.f0.length cn0_0) ∧ w'.cell? ⟨a0.adr, 1, none⟩ = some (.slice An0_1 a0.f1.length cn0_1) ∧ w'.cell? ⟨a0.adr, 2, none⟩ = some (.slice An0_2 a0.f2.length cn0_2)) ∧ (Kd.R Kd.string 9 w' w.heap.size (fun _ => True) s_ y41) ∧ (w'.heap[gb46]? = some (.cells #[.slice none 0 0, .slice none 0 0, .slice none 0 0, .int .i64 0] 43 (0, 0))) ∧ (Below w.heap.size w w')) ?_ ?_; rotate_left
             ·intro hJ0
              refine join_ (σ := Value) 6 #[false, true, true, true, true, false, true, true, true, true, true, false, false, false, false] (fun s_ => [(12, s_)]) (fun s_ w' => (w'.cell? ⟨a0.adr, 0, none⟩ = some (.slice An0_0 a0.f0.length cn0_0) ∧ w'.cell? ⟨a0.adr, 1, none⟩ = some (.slice An0_1 a0.f1.length cn0_1) ∧ w'.cell? ⟨a0.adr, 2, none⟩ = some (.slice An0_2 a0.f2.length cn0_2) ∧ w'.cell? ⟨a0.adr, 0, none⟩ = some (.slice An0_0 a0.f0.length cn0_0) ∧ w'.cell? ⟨a0.adr, 1, none⟩ = some (.slice An0_1 a0.f1.length cn0_1) ∧ w'.cell? ⟨a0.adr, 2, none⟩ = some (.slice An0_2 a0.f2.length cn0_2)) ∧ (Kd.R Kd.string 9 w' w.heap.size (fun _ => True) s_ y42) ∧ (w'.heap[gb46]? = some (.cells #[.slice none 0 0, .slice none 0 0, .slice none 0 0, .int .i64 0] 43 (0, 0))) ∧ (Below w.heap.size w w')) ?_ ?_; rotate_left
              ·intro hJ6
               refine join_ (σ := Nat) 6 #[false, true, true, true, true, false, false, true, true, true, true, false, false, true, false] (fun s_ => [(3, .pointer (some ⟨s_, 0, none⟩))]) (fun s_ w' => (w'.cell? ⟨a0.adr, 0, none⟩ = some (.slice An0_0 a0.f0.length cn0_0) ∧ w'.cell? ⟨a0.adr, 1, none⟩ = some (.slice An0_1 a0.f1.length cn0_1) ∧ w'.cell? ⟨a0.adr, 2, none⟩ = some (.slice An0_2 a0.f2.length cn0_2) ∧ w'.cell? ⟨a0.adr, 0, none⟩ = some (.slice An0_0 a0.f0.length cn0_0) ∧ w'.cell? ⟨a0.adr, 1, none⟩ = some (.slice An0_1 a0.f1.length cn0_1) ∧ w'.cell? ⟨a0.adr, 2, none⟩ = some (.slice An0_2 a0.f2.length cn0_2)) ∧ (w'.heap[gb46]? = some (.cells #[.slice none 0 0, .slice none 0 0, .slice none 0 0, .int .i64 0] 43 (0, 0))) ∧ (w'.heap[s_]? = some (.cells #[.slice none 0 0, .slice none 0 0, .slice none 0 0, .int .i64 0] 43 (0, 0))) ∧ (w.heap.size ≤ s_) ∧ (w.heap.size ≤ s_) ∧ (gb46 ≠ s_) ∧ (s_ ≠ gb46) ∧ (Below w.heap.size w w')) ?_ ?_; rotate_left
               ·intro hJ13
                refine three_ (i := 0) (j := 6) (k := 13) (Ni := some 6) (Nj := some 12) (Nk := some 3) #[true, true, true, true, true, false, false, true, true, true, true, false, false, false, false] #[false, true, true, true, true, false, true, true, true, true, true, false, false, false, false] #[false, true, true, true, true, false, false, true, true, true, true, false, false, true, false] rfl rfl rfl rfl rfl rfl (three_of HT_.out (by kernel_rfl)) (by decide) (by decide) (by decide) (fun K hK => ?_) (fun K hK => ?_) (fun K hK => ?_)
                ·skip
                 refine Kd.R_lit_step Kd.string _ 9 ?hg (N := 6) ?hd (xs := ([] : List ByteArray)) (inner := []) (ok := fun _ => True) (okp := fun _ => True) ?hr ?hp (fun _ hk => hk) trivial (Below.refl _ _) (Nat.le_refl _) (by simp) ?_; (case hd => rfl); (case hg => rfl); (case hr => first | (go_simp; done) | (go_simp; rfl)); (case hp => exact (Reps.none _ _)); intro v49 w6 ho7 hb hg_ hnew_; clear hg_ hnew_; (first | rw [← Ny41.out] at ho7 | (simp only [Int.reduceToNat] at ho7; rw [← Ny41.out] at ho7)); have n0_ := zA (Kd.R_lower ho7 (zAE (by repeat (first | (with_reducible first | exact HB.out | apply zH | apply zF | apply zG | refine zI ?_ GE46.out) | exact HB.out)))); have n1_ := zA (yE (g := gb46) (o := .cells #[.slice none 0 0, .slice none 0 0, .slice none 0 0, .int .i64 0] 43 (0, 0)) (by (with_reducible repeat (first | refine zL ?_ _ | refine zN ?_ | refine zM ?_ _)); exact BK46.out) hb); have n2_ := zA (zAD (by repeat (first | (with_reducible first | exact HB.out | apply zH | apply zF | apply zG | refine zI ?_ GE46.out) | exact HB.out)) hb); clear BK46 HB; have HO50 := n0_; have BK46 := n1_; have HB := n2_; clear n0_ n1_ n2_ hb ho7; refine hK.out _ _ ⟨((HB.out.cell (zB w _ hw47_0)).trans hw47_0), ((HB.out.cell (zB w _ hw47_1)).trans hw47_1), ((HB.out.cell (zB w _ hw47_2)).trans hw47_2), ((HB.out.cell (zB w _ hw48_0)).trans hw48_0), ((HB.out.cell (zB w _ hw48_1)).trans hw48_1), ((HB.out.cell (zB w _ hw48_2)).trans hw48_2)⟩ (fun hHeld => ?_); clear hK K; refine norm_ (a' := ?_) ?_ ?_; rotate_left
                 ·show Act.put _ (some 6) _ = _
                  simp only [Act.put, zC, zD, zE, i64_w]; rfl
                 exact norm_ (by simp only [putAll, Act.put, zC, zD, zE] <;> rfl) (hJ0 (v49) _ ⟨hHeld, (by (with_reducible repeat first | apply zQ | apply zR | apply zS); exact HO50.out), (by (with_reducible repeat (first | refine zL ?_ _ | refine zN ?_ | refine zM ?_ _)); exact BK46.out), (by repeat (first | (with_reducible first | exact HB.out | apply zH | apply zF | apply zG | refine zI ?_ GE46.out) | exact HB.out))⟩)
                ·skip
                 refine Kd.R_lit_step Kd.string _ 9 ?hg (N := 12) ?hd (xs := ([] : List ByteArray)) (inner := []) (ok := fun _ => True) (okp := fun _ => True) ?hr ?hp (fun _ hk => hk) trivial (Below.refl _ _) (Nat.le_refl _) (by simp) ?_; (case hd => rfl); (case hg => rfl); (case hr => first | (go_simp; done) | (go_simp; rfl)); (case hp => exact (Reps.none _ _)); intro v51 w6 ho7 hb hg_ hnew_; clear hg_ hnew_; (first | rw [← Ny42.out] at ho7 | (simp only [Int.reduceToNat] at ho7; rw [← Ny42.out] at ho7)); have n0_ := zA (Kd.R_lower ho7 (zAE (by repeat (first | (with_reducible first | exact HB.out | apply zH | apply zF | apply zG | refine zI ?_ GE46.out) | exact HB.out)))); have n1_ := zA (yE (g := gb46) (o := .cells #[.slice none 0 0, .slice none 0 0, .slice none 0 0, .int .i64 0] 43 (0, 0)) (by (with_reducible repeat (first | refine zL ?_ _ | refine zN ?_ | refine zM ?_ _)); exact BK46.out) hb); have n2_ := zA (zAD (by repeat (first | (with_reducible first | exact HB.out | apply zH | apply zF | apply zG | refine zI ?_ GE46.out) | exact HB.out)) hb); clear BK46 HB; have HO52 := n0_; have BK46 := n1_; have HB := n2_; clear n0_ n1_ n2_ hb ho7; refine hK.out _ _ ⟨((HB.out.cell (zB w _ hw47_0)).trans hw47_0), ((HB.out.cell (zB w _ hw47_1)).trans hw47_1), ((HB.out.cell (zB w _ hw47_2)).trans hw47_2), ((HB.out.cell (zB w _ hw48_0)).trans hw48_0), ((HB.out.cell (zB w _ hw48_1)).trans hw48_1), ((HB.out.cell (zB w _ hw48_2)).trans hw48_2)⟩ (fun hHeld => ?_); clear hK K; refine norm_ (a' := ?_) ?_ ?_; rotate_left
                 ·show Act.put _ (some 12) _ = _
                  simp only [Act.put, zC, zD, zE, i64_w]; rfl
                 exact norm_ (by simp only [putAll, Act.put, zC, zD, zE] <;> rfl) (hJ6 (v51) _ ⟨hHeld, (by (with_reducible repeat first | apply zQ | apply zR | apply zS); exact HO52.out), (by (with_reducible repeat (first | refine zL ?_ _ | refine zN ?_ | refine zM ?_ _)); exact BK46.out), (by repeat (first | (with_reducible first | exact HB.out | apply zH | apply zF | apply zG | refine zI ?_ GE46.out) | exact HB.out))⟩)
                ·skip
                 refine box_step ?hg (N := 3) ?hd (cs := #[.slice none 0 0, .slice none 0 0, .slice none 0 0, .int .i64 0]) (t := 43) ?hr ?_; (case hd => rfl); (case hg => rfl); (case hr => first | (go_simp; done) | (go_simp; rfl)); intro gb53 hg w6 hbox hb; have n0_ := zA (yE (g := gb46) (o := .cells #[.slice none 0 0, .slice none 0 0, .slice none 0 0, .int .i64 0] 43 (0, 0)) (by (with_reducible repeat (first | refine zL ?_ _ | refine zN ?_ | refine zM ?_ _)); exact BK46.out) hb); have n1_ := zA (zAD (by repeat (first | (with_reducible first | exact HB.out | apply zH | apply zF | apply zG | refine zI ?_ GE46.out) | exact HB.out)) hb); have n2_ := zA (hbox); have n3_ := zA ((by rw [hg]; exact (zAE (by repeat (first | (with_reducible first | exact HB.out | apply zH | apply zF | apply zG | refine zI ?_ GE46.out) | exact HB.out))) : w.heap.size ≤ gb53)); have n4_ := zA ((by rw [hg]; exact (zAE (by repeat (first | (with_reducible first | exact HB.out | apply zH | apply zF | apply zG | refine zI ?_ GE46.out) | exact HB.out))) : w.heap.size ≤ gb53)); have n5_ := zA ((by rw [hg]; exact zK (blk_lt (g := gb46) (o := .cells #[.slice none 0 0, .slice none 0 0, .slice none 0 0, .int .i64 0] 43 (0, 0)) (by (with_reducible repeat (first | refine zL ?_ _ | refine zN ?_ | refine zM ?_ _)); exact BK46.out)) : gb46 ≠ gb53)); have n6_ := zA ((by rw [hg]; exact Nat.ne_of_gt (blk_lt (g := gb46) (o := .cells #[.slice none 0 0, .slice none 0 0, .slice none 0 0, .int .i64 0] 43 (0, 0)) (by (with_reducible repeat (first | refine zL ?_ _ | refine zN ?_ | refine zM ?_ _)); exact BK46.out)) : gb53 ≠ gb46)); clear BK46 HB; have BK46 := n0_; have HB := n1_; have BK53 := n2_; have GW53 := n3_; have GE53 := n4_; have NB46_53 := n5_; have NB53_46 := n6_; clear n0_ n1_ n2_ n3_ n4_ n5_ n6_ hb hbox hg; refine hK.out _ _ ⟨((HB.out.cell (zB w _ hw47_0)).trans hw47_0), ((HB.out.cell (zB w _ hw47_1)).trans hw47_1), ((HB.out.cell (zB w _ hw47_2)).trans hw47_2), ((HB.out.cell (zB w _ hw48_0)).trans hw48_0), ((HB.out.cell (zB w _ hw48_1)).trans hw48_1), ((HB.out.cell (zB w _ hw48_2)).trans hw48_2)⟩ (fun hHeld => ?_); clear hK K; refine norm_ (a' := ?_) ?_ ?_; rotate_left
                 ·show Act.put _ (some 3) _ = _
                  simp only [Act.put, zC, zD, zE, i64_w]; rfl
                 exact norm_ (by simp only [putAll, Act.put, zC, zD, zE] <;> rfl) (hJ13 (gb53) _ ⟨hHeld, (by (with_reducible repeat (first | refine zL ?_ _ | refine zN ?_ | refine zM ?_ _)); exact BK46.out), (by (with_reducible repeat (first | refine zL ?_ _ | refine zN ?_ | refine zM ?_ _)); exact BK53.out), GW53.out, GE53.out, NB46_53.out, NB53_46.out, (by repeat (first | (with_reducible first | exact HB.out | apply zH | apply zF | apply zG | refine zI ?_ GE46.out | refine zI ?_ GE53.out) | exact HB.out))⟩)
               ·skip
                rintro gb53 w7 ⟨hS_, h0_, h1_, h2_, h3_, h4_, h5_, h6_⟩; have n0_ : Aside0 (w7.heap[gb46]? = some (.cells #[.slice none 0 0, .slice none 0 0, .slice none 0 0, .int .i64 0] 43 (0, 0))) := ⟨h0_⟩; have n1_ : Aside0 (w7.heap[gb53]? = some (.cells #[.slice none 0 0, .slice none 0 0, .slice none 0 0, .int .i64 0] 43 (0, 0))) := ⟨h1_⟩; have n2_ : Aside0 (w.heap.size ≤ gb53) := ⟨h2_⟩; have n3_ : Aside0 (w.heap.size ≤ gb53) := ⟨h3_⟩; have n4_ : Aside0 (gb46 ≠ gb53) := ⟨h4_⟩; have n5_ : Aside0 (gb53 ≠ gb46) := ⟨h5_⟩; have n6_ : Aside0 (Below w.heap.size w w7) := ⟨h6_⟩; clear BK46 HB h0_ h1_ h2_ h3_ h4_ h5_ h6_; have BK46 := n0_; have BK53 := n1_; have GW53 := n2_; have GE53 := n3_; have NB46_53 := n4_; have NB53_46 := n5_; have HB := n6_; clear n0_ n1_ n2_ n3_ n4_ n5_ n6_; have hHeld : w7.cell? ⟨a0.adr, 0, none⟩ = some (.slice An0_0 a0.f0.length cn0_0) ∧ w7.cell? ⟨a0.adr, 1, none⟩ = some (.slice An0_1 a0.f1.length cn0_1) ∧ w7.cell? ⟨a0.adr, 2, none⟩ = some (.slice An0_2 a0.f2.length cn0_2) ∧ w7.cell? ⟨a0.adr, 0, none⟩ = some (.slice An0_0 a0.f0.length cn0_0) ∧ w7.cell? ⟨a0.adr, 1, none⟩ = some (.slice An0_1 a0.f1.length cn0_1) ∧ w7.cell? ⟨a0.adr, 2, none⟩ = some (.slice An0_2 a0.f2.length cn0_2) := hS_; refine norm_ (a' := ?_) ?_ ?_; rotate_left
                ·simp only [putAll, Act.put, zC, zD, zE]
                 rfl
                refine two_ (i := 0) (j := 6) (Ni := some 6) (Nj := some 12) #[true, true, true, true, true, false, false, true, true, true, true, false, false, true, false] #[false, true, true, true, true, false, true, true, true, true, true, false, false, true, false] rfl rfl rfl rfl (two_of HT_.out (by kernel_rfl)) (by decide) (by decide) (fun K hK => ?_) (fun K hK => ?_)
                ·skip
                 refine Kd.R_lit_step Kd.string _ 9 ?hg (N := 6) ?hd (xs := ([] : List ByteArray)) (inner := []) (ok := fun _ => True) (okp := fun _ => True) ?hr ?hp (fun _ hk => hk) trivial (Below.refl _ _) (Nat.le_refl _) (by simp) ?_; (case hd => rfl); (case hg => rfl); (case hr => first | (go_simp; done) | (go_simp; rfl)); (case hp => exact (Reps.none _ _)); intro v49 w8 ho9 hb hg_ hnew_; clear hg_ hnew_; (first | rw [← Ny41.out] at ho9 | (simp only [Int.reduceToNat] at ho9; rw [← Ny41.out] at ho9)); have n0_ := zA (Kd.R_lower ho9 (zAE (by repeat (first | (with_reducible first | exact HB.out | apply zH | apply zF | apply zG | refine zI ?_ GE46.out | refine zI ?_ GE53.out) | exact HB.out)))); have n1_ := zA (yE (g := gb46) (o := .cells #[.slice none 0 0, .slice none 0 0, .slice none 0 0, .int .i64 0] 43 (0, 0)) (by (with_reducible repeat (first | refine zL ?_ _ | refine zN ?_ | refine zM ?_ _)); exact BK46.out) hb); have n2_ := zA (yE (g := gb53) (o := .cells #[.slice none 0 0, .slice none 0 0, .slice none 0 0, .int .i64 0] 43 (0, 0)) (by (with_reducible repeat (first | refine zL ?_ _ | refine zN ?_ | refine zM ?_ _)); exact BK53.out) hb); have n3_ := zA (zAD (by repeat (first | (with_reducible first | exact HB.out | apply zH | apply zF | apply zG | refine zI ?_ GE46.out | refine zI ?_ GE53.out) | exact HB.out)) hb); clear BK46 BK53 HB; have HO50 := n0_; have BK46 := n1_; have BK53 := n2_; have HB := n3_; clear n0_ n1_ n2_ n3_ hb ho9; refine hK.out _ _ ⟨((HB.out.cell (zB w _ hw47_0)).trans hw47_0), ((HB.out.cell (zB w _ hw47_1)).trans hw47_1), ((HB.out.cell (zB w _ hw47_2)).trans hw47_2), ((HB.out.cell (zB w _ hw48_0)).trans hw48_0), ((HB.out.cell (zB w _ hw48_1)).trans hw48_1), ((HB.out.cell (zB w _ hw48_2)).trans hw48_2)⟩ (fun hHeld => ?_); clear hK K; refine norm_ (a' := ?_) ?_ ?_; rotate_left
                 ·show Act.put _ (some 6) _ = _
                  simp only [Act.put, zC, zD, zE, i64_w]; rfl
                 exact norm_ (by simp only [putAll, Act.put, zC, zD, zE] <;> rfl) (hJ0_13 (v49, gb53) _ ⟨hHeld, (by (with_reducible repeat first | apply zQ | apply zR | apply zS); exact HO50.out), (by (with_reducible repeat (first | refine zL ?_ _ | refine zN ?_ | refine zM ?_ _)); exact BK46.out), (by (with_reducible repeat (first | refine zL ?_ _ | refine zN ?_ | refine zM ?_ _)); exact BK53.out), GW53.out, GE53.out, NB46_53.out, NB53_46.out, (by repeat (first | (with_reducible first | exact HB.out | apply zH | apply zF | apply zG | refine zI ?_ GE46.out | refine zI ?_ GE53.out) | exact HB.out))⟩)
                ·skip
                 refine Kd.R_lit_step Kd.string _ 9 ?hg (N := 12) ?hd (xs := ([] : List ByteArray)) (inner := []) (ok := fun _ => True) (okp := fun _ => True) ?hr ?hp (fun _ hk => hk) trivial (Below.refl _ _) (Nat.le_refl _) (by simp) ?_; (case hd => rfl); (case hg => rfl); (case hr => first | (go_simp; done) | (go_simp; rfl)); (case hp => exact (Reps.none _ _)); intro v51 w8 ho9 hb hg_ hnew_; clear hg_ hnew_; (first | rw [← Ny42.out] at ho9 | (simp only [Int.reduceToNat] at ho9; rw [← Ny42.out] at ho9)); have n0_ := zA (Kd.R_lower ho9 (zAE (by repeat (first | (with_reducible first | exact HB.out | apply zH | apply zF | apply zG | refine zI ?_ GE46.out | refine zI ?_ GE53.out) | exact HB.out)))); have n1_ := zA (yE (g := gb46) (o := .cells #[.slice none 0 0, .slice none 0 0, .slice none 0 0, .int .i64 0] 43 (0, 0)) (by (with_reducible repeat (first | refine zL ?_ _ | refine zN ?_ | refine zM ?_ _)); exact BK46.out) hb); have n2_ := zA (yE (g := gb53) (o := .cells #[.slice none 0 0, .slice none 0 0, .slice none 0 0, .int .i64 0] 43 (0, 0)) (by (with_reducible repeat (first | refine zL ?_ _ | refine zN ?_ | refine zM ?_ _)); exact BK53.out) hb); have n3_ := zA (zAD (by repeat (first | (with_reducible first | exact HB.out | apply zH | apply zF | apply zG | refine zI ?_ GE46.out | refine zI ?_ GE53.out) | exact HB.out)) hb); clear BK46 BK53 HB; have HO52 := n0_; have BK46 := n1_; have BK53 := n2_; have HB := n3_; clear n0_ n1_ n2_ n3_ hb ho9; refine hK.out _ _ ⟨((HB.out.cell (zB w _ hw47_0)).trans hw47_0), ((HB.out.cell (zB w _ hw47_1)).trans hw47_1), ((HB.out.cell (zB w _ hw47_2)).trans hw47_2), ((HB.out.cell (zB w _ hw48_0)).trans hw48_0), ((HB.out.cell (zB w _ hw48_1)).trans hw48_1), ((HB.out.cell (zB w _ hw48_2)).trans hw48_2)⟩ (fun hHeld => ?_); clear hK K; refine norm_ (a' := ?_) ?_ ?_; rotate_left
                 ·show Act.put _ (some 12) _ = _
                  simp only [Act.put, zC, zD, zE, i64_w]; rfl
                 exact norm_ (by simp only [putAll, Act.put, zC, zD, zE] <;> rfl) (hJ6_13 (v51, gb53) _ ⟨hHeld, (by (with_reducible repeat first | apply zQ | apply zR | apply zS); exact HO52.out), (by (with_reducible repeat (first | refine zL ?_ _ | refine zN ?_ | refine zM ?_ _)); exact BK46.out), (by (with_reducible repeat (first | refine zL ?_ _ | refine zN ?_ | refine zM ?_ _)); exact BK53.out), GW53.out, GE53.out, NB46_53.out, NB53_46.out, (by repeat (first | (with_reducible first | exact HB.out | apply zH | apply zF | apply zG | refine zI ?_ GE46.out | refine zI ?_ GE53.out) | exact HB.out))⟩)
              ·skip
               rintro v51 w8 ⟨hS_, h0_, h1_, h2_⟩; have n0_ : Aside0 (Kd.R Kd.string 9 w8 w.heap.size (fun _ => True) v51 y42) := ⟨h0_⟩; have n1_ : Aside0 (w8.heap[gb46]? = some (.cells #[.slice none 0 0, .slice none 0 0, .slice none 0 0, .int .i64 0] 43 (0, 0))) := ⟨h1_⟩; have n2_ : Aside0 (Below w.heap.size w w8) := ⟨h2_⟩; clear BK46 HB h0_ h1_ h2_; have HO52 := n0_; have BK46 := n1_; have HB := n2_; clear n0_ n1_ n2_; have hHeld : w8.cell? ⟨a0.adr, 0, none⟩ = some (.slice An0_0 a0.f0.length cn0_0) ∧ w8.cell? ⟨a0.adr, 1, none⟩ = some (.slice An0_1 a0.f1.length cn0_1) ∧ w8.cell? ⟨a0.adr, 2, none⟩ = some (.slice An0_2 a0.f2.length cn0_2) ∧ w8.cell? ⟨a0.adr, 0, none⟩ = some (.slice An0_0 a0.f0.length cn0_0) ∧ w8.cell? ⟨a0.adr, 1, none⟩ = some (.slice An0_1 a0.f1.length cn0_1) ∧ w8.cell? ⟨a0.adr, 2, none⟩ = some (.slice An0_2 a0.f2.length cn0_2) := hS_; refine norm_ (a' := ?_) ?_ ?_; rotate_left
               ·simp only [putAll, Act.put, zC, zD, zE]
                rfl
               refine two_ (i := 0) (j := 13) (Ni := some 6) (Nj := some 3) #[true, true, true, true, true, false, true, true, true, true, true, false, false, false, false] #[false, true, true, true, true, false, true, true, true, true, true, false, false, true, false] rfl rfl rfl rfl (two_of HT_.out (by kernel_rfl)) (by decide) (by decide) (fun K hK => ?_) (fun K hK => ?_)
               ·skip
                refine Kd.R_lit_step Kd.string _ 9 ?hg (N := 6) ?hd (xs := ([] : List ByteArray)) (inner := []) (ok := fun _ => True) (okp := fun _ => True) ?hr ?hp (fun _ hk => hk) trivial (Below.refl _ _) (Nat.le_refl _) (by simp) ?_; (case hd => rfl); (case hg => rfl); (case hr => first | (go_simp; done) | (go_simp; rfl)); (case hp => exact (Reps.none _ _)); intro v49 w9 ho10 hb hg_ hnew_; clear hg_ hnew_; (first | rw [← Ny41.out] at ho10 | (simp only [Int.reduceToNat] at ho10; rw [← Ny41.out] at ho10)); have n0_ := zA (yJ (by (with_reducible repeat first | apply zQ | apply zR | apply zS); exact HO52.out) (Kd.R_base ho10) hb); have n1_ := zA (Kd.R_lower (yK ho10 (Kd.R_lt (by (with_reducible repeat first | apply zQ | apply zR | apply zS); exact HO52.out))) (zAE (by repeat (first | (with_reducible first | exact HB.out | apply zH | apply zF | apply zG | refine zI ?_ GE46.out) | exact HB.out)))); have n2_ := zA (yE (g := gb46) (o := .cells #[.slice none 0 0, .slice none 0 0, .slice none 0 0, .int .i64 0] 43 (0, 0)) (by (with_reducible repeat (first | refine zL ?_ _ | refine zN ?_ | refine zM ?_ _)); exact BK46.out) hb); have n3_ := zA (zAD (by repeat (first | (with_reducible first | exact HB.out | apply zH | apply zF | apply zG | refine zI ?_ GE46.out) | exact HB.out)) hb); clear HO52 BK46 HB; have HO52 := n0_; have HO50 := n1_; have BK46 := n2_; have HB := n3_; clear n0_ n1_ n2_ n3_ hb ho10; refine hK.out _ _ ⟨((HB.out.cell (zB w _ hw47_0)).trans hw47_0), ((HB.out.cell (zB w _ hw47_1)).trans hw47_1), ((HB.out.cell (zB w _ hw47_2)).trans hw47_2), ((HB.out.cell (zB w _ hw48_0)).trans hw48_0), ((HB.out.cell (zB w _ hw48_1)).trans hw48_1), ((HB.out.cell (zB w _ hw48_2)).trans hw48_2)⟩ (fun hHeld => ?_); clear hK K; refine norm_ (a' := ?_) ?_ ?_; rotate_left
                ·show Act.put _ (some 6) _ = _
                 simp only [Act.put, zC, zD, zE, i64_w]; rfl
                exact norm_ (by simp only [putAll, Act.put, zC, zD, zE] <;> rfl) (hJ0_6 (v49, v51) _ ⟨hHeld, (by (with_reducible repeat first | apply zQ | apply zR | apply zS); exact yC HO50.out (fun _ hk => hk.2)), (by (with_reducible repeat first | apply zQ | apply zR | apply zS); exact yC HO52.out (fun _ hk => hk.2)), (by (with_reducible repeat (first | refine zL ?_ _ | refine zN ?_ | refine zM ?_ _)); exact BK46.out), (by repeat (first | (with_reducible first | exact HB.out | apply zH | apply zF | apply zG | refine zI ?_ GE46.out) | exact HB.out))⟩)
               ·skip
                refine box_step ?hg (N := 3) ?hd (cs := #[.slice none 0 0, .slice none 0 0, .slice none 0 0, .int .i64 0]) (t := 43) ?hr ?_; (case hd => rfl); (case hg => rfl); (case hr => first | (go_simp; done) | (go_simp; rfl)); intro gb53 hg w9 hbox hb; have n0_ := zA (Kd.R_below (by (with_reducible repeat first | apply zQ | apply zR | apply zS); exact HO52.out) hb); have n1_ := zA (yE (g := gb46) (o := .cells #[.slice none 0 0, .slice none 0 0, .slice none 0 0, .int .i64 0] 43 (0, 0)) (by (with_reducible repeat (first | refine zL ?_ _ | refine zN ?_ | refine zM ?_ _)); exact BK46.out) hb); have n2_ := zA (zAD (by repeat (first | (with_reducible first | exact HB.out | apply zH | apply zF | apply zG | refine zI ?_ GE46.out) | exact HB.out)) hb); have n3_ := zA (hbox); have n4_ := zA ((by rw [hg]; exact (zAE (by repeat (first | (with_reducible first | exact HB.out | apply zH | apply zF | apply zG | refine zI ?_ GE46.out) | exact HB.out))) : w.heap.size ≤ gb53)); have n5_ := zA ((by rw [hg]; exact (zAE (by repeat (first | (with_reducible first | exact HB.out | apply zH | apply zF | apply zG | refine zI ?_ GE46.out) | exact HB.out))) : w.heap.size ≤ gb53)); have n6_ := zA ((by rw [hg]; exact zK (blk_lt (g := gb46) (o := .cells #[.slice none 0 0, .slice none 0 0, .slice none 0 0, .int .i64 0] 43 (0, 0)) (by (with_reducible repeat (first | refine zL ?_ _ | refine zN ?_ | refine zM ?_ _)); exact BK46.out)) : gb46 ≠ gb53)); have n7_ := zA ((by rw [hg]; exact Nat.ne_of_gt (blk_lt (g := gb46) (o := .cells #[.slice none 0 0, .slice none 0 0, .slice none 0 0, .int .i64 0] 43 (0, 0)) (by (with_reducible repeat (first | refine zL ?_ _ | refine zN ?_ | refine zM ?_ _)); exact BK46.out)) : gb53 ≠ gb46)); clear HO52 BK46 HB; have HO52 := n0_; have BK46 := n1_; have HB := n2_; have BK53 := n3_; have GW53 := n4_; have GE53 := n5_; have NB46_53 := n6_; have NB53_46 := n7_; clear n0_ n1_ n2_ n3_ n4_ n5_ n6_ n7_ hb hbox hg; refine hK.out _ _ ⟨((HB.out.cell (zB w _ hw47_0)).trans hw47_0), ((HB.out.cell (zB w _ hw47_1)).trans hw47_1), ((HB.out.cell (zB w _ hw47_2)).trans hw47_2), ((HB.out.cell (zB w _ hw48_0)).trans hw48_0), ((HB.out.cell (zB w _ hw48_1)).trans hw48_1), ((HB.out.cell (zB w _ hw48_2)).trans hw48_2)⟩ (fun hHeld => ?_); clear hK K; refine norm_ (a' := ?_) ?_ ?_; rotate_left
                ·show Act.put _ (some 3) _ = _
                 simp only [Act.put, zC, zD, zE, i64_w]; rfl
                exact norm_ (by simp only [putAll, Act.put, zC, zD, zE] <;> rfl) (hJ6_13 (v51, gb53) _ ⟨hHeld, (by (with_reducible repeat first | apply zQ | apply zR | apply zS); exact HO52.out), (by (with_reducible repeat (first | refine zL ?_ _ | refine zN ?_ | refine zM ?_ _)); exact BK46.out), (by (with_reducible repeat (first | refine zL ?_ _ | refine zN ?_ | refine zM ?_ _)); exact BK53.out), GW53.out, GE53.out, NB46_53.out, NB53_46.out, (by repeat (first | (with_reducible first | exact HB.out | apply zH | apply zF | apply zG | refine zI ?_ GE46.out | refine zI ?_ GE53.out) | exact HB.out))⟩)
             ·skip
              rintro v49 w8 ⟨hS_, h0_, h1_, h2_⟩; have n0_ : Aside0 (Kd.R Kd.string 9 w8 w.heap.size (fun _ => True) v49 y41) := ⟨h0_⟩; have n1_ : Aside0 (w8.heap[gb46]? = some (.cells #[.slice none 0 0, .slice none 0 0, .slice none 0 0, .int .i64 0] 43 (0, 0))) := ⟨h1_⟩; have n2_ : Aside0 (Below w.heap.size w w8) := ⟨h2_⟩; clear BK46 HB h0_ h1_ h2_; have HO50 := n0_; have BK46 := n1_; have HB := n2_; clear n0_ n1_ n2_; have hHeld : w8.cell? ⟨a0.adr, 0, none⟩ = some (.slice An0_0 a0.f0.length cn0_0) ∧ w8.cell? ⟨a0.adr, 1, none⟩ = some (.slice An0_1 a0.f1.length cn0_1) ∧ w8.cell? ⟨a0.adr, 2, none⟩ = some (.slice An0_2 a0.f2.length cn0_2) ∧ w8.cell? ⟨a0.adr, 0, none⟩ = some (.slice An0_0 a0.f0.length cn0_0) ∧ w8.cell? ⟨a0.adr, 1, none⟩ = some (.slice An0_1 a0.f1.length cn0_1) ∧ w8.cell? ⟨a0.adr, 2, none⟩ = some (.slice An0_2 a0.f2.length cn0_2) := hS_; refine norm_ (a' := ?_) ?_ ?_; rotate_left
              ·simp only [putAll, Act.put, zC, zD, zE]
               rfl
              refine three_ (i := 5) (j := 6) (k := 13) (Ni := some 11) (Nj := some 12) (Nk := some 3) #[true, true, true, true, true, true, false, true, true, true, true, false, false, false, false] #[true, true, true, true, true, false, true, true, true, true, true, false, false, false, false] #[true, true, true, true, true, false, false, true, true, true, true, false, false, true, false] rfl rfl rfl rfl rfl rfl (three_of HT_.out (by kernel_rfl)) (by decide) (by decide) (by decide) (fun K hK => ?_) (fun K hK => ?_) (fun K hK => ?_)
              ·skip
               refine Kd.R_append_rows_step Kd.string (w0 := w) w.heap.size (by rfl) (.tmp 6) (.tmp 10) 41 9 (.string ⟨#[]⟩) 16 rfl Try.underlying41 info9 rfl (by decide) (by omega) v49 y41 a0.f0 _ _ _ (fun _ => True) (fun _ => False) rfl rfl ?aO ?aR (fun _ _ h => h) (fun _ h => h.elim) ?aF ?aB ?aS ?aL ?_; (case aR => repeat (first | exact (yN HRn0_0.out HB.out) | (with_reducible first | refine zT ?_ _ | refine zU ?_ _ | refine zV ?_))); (case aB => exact (by repeat (first | (with_reducible first | exact HB.out | apply zH | apply zF | apply zG | refine zI ?_ GE46.out) | exact HB.out))); (case aF => exact (fun _ _ => trivial)); (case aO => exact (by (with_reducible repeat first | apply zQ | apply zR | apply zS); exact HO50.out)); (case aS => exact (zAE (by repeat (first | (with_reducible first | exact HB.out | apply zH | apply zF | apply zG | refine zI ?_ GE46.out) | exact HB.out)))); (case aL => have := LMc2.out; omega); intro v55 w9 ho hb hg hat; rw [← Ny44.out] at ho; have n0_ := zA (blk_grown (g := gb46) (o := .cells #[.slice none 0 0, .slice none 0 0, .slice none 0 0, .int .i64 0] 43 (0, 0)) (by (with_reducible repeat (first | refine zL ?_ _ | refine zN ?_ | refine zM ?_ _)); exact BK46.out) hg (Kd.R_ne HO50.out BK46.out (by decide))); have n1_ := zA (hb); have n2_ := zA (ho); clear BK46 HB HO50; have BK46 := n0_; have HB := n1_; have HO56 := n2_; clear n0_ n1_ n2_ ho hb hg hat; refine hK.out _ _ ⟨((HB.out.cell (zB w _ hw47_0)).trans hw47_0), ((HB.out.cell (zB w _ hw47_1)).trans hw47_1), ((HB.out.cell (zB w _ hw47_2)).trans hw47_2), ((HB.out.cell (zB w _ hw48_0)).trans hw48_0), ((HB.out.cell (zB w _ hw48_1)).trans hw48_1), ((HB.out.cell (zB w _ hw48_2)).trans hw48_2)⟩ (fun hHeld => ?_); clear hK K; refine norm_ (a' := ?_) ?_ ?_; rotate_left
               ·show Act.put _ (some 11) _ = _
                simp only [Act.put, zC, zD, zE, i64_w]; rfl
               exact norm_ (by simp only [putAll, Act.put, zC, zD, zE] <;> rfl) (hJ0_5 (v49, v55) _ ⟨hHeld, (by (with_reducible repeat first | apply zQ | apply zR | apply zS); exact HO56.out), (by (with_reducible repeat (first | refine zL ?_ _ | refine zN ?_ | refine zM ?_ _)); exact BK46.out), (by repeat (first | (with_reducible first | exact HB.out | apply zH | apply zF | apply zG | refine zI ?_ GE46.out) | exact HB.out))⟩)
              ·skip
               refine Kd.R_lit_step Kd.string _ 9 ?hg (N := 12) ?hd (xs := ([] : List ByteArray)) (inner := []) (ok := fun _ => True) (okp := fun _ => True) ?hr ?hp (fun _ hk => hk) trivial (Below.refl _ _) (Nat.le_refl _) (by simp) ?_; (case hd => rfl); (case hg => rfl); (case hr => first | (go_simp; done) | (go_simp; rfl)); (case hp => exact (Reps.none _ _)); intro v51 w9 ho10 hb hg_ hnew_; clear hg_ hnew_; (first | rw [← Ny42.out] at ho10 | (simp only [Int.reduceToNat] at ho10; rw [← Ny42.out] at ho10)); have n0_ := zA (yJ (by (with_reducible repeat first | apply zQ | apply zR | apply zS); exact HO50.out) (Kd.R_base ho10) hb); have n1_ := zA (Kd.R_lower (yK ho10 (Kd.R_lt (by (with_reducible repeat first | apply zQ | apply zR | apply zS); exact HO50.out))) (zAE (by repeat (first | (with_reducible first | exact HB.out | apply zH | apply zF | apply zG | refine zI ?_ GE46.out) | exact HB.out)))); have n2_ := zA (yE (g := gb46) (o := .cells #[.slice none 0 0, .slice none 0 0, .slice none 0 0, .int .i64 0] 43 (0, 0)) (by (with_reducible repeat (first | refine zL ?_ _ | refine zN ?_ | refine zM ?_ _)); exact BK46.out) hb); have n3_ := zA (zAD (by repeat (first | (with_reducible first | exact HB.out | apply zH | apply zF | apply zG | refine zI ?_ GE46.out) | exact HB.out)) hb); clear HO50 BK46 HB; have HO50 := n0_; have HO52 := n1_; have BK46 := n2_; have HB := n3_; clear n0_ n1_ n2_ n3_ hb ho10; refine hK.out _ _ ⟨((HB.out.cell (zB w _ hw47_0)).trans hw47_0), ((HB.out.cell (zB w _ hw47_1)).trans hw47_1), ((HB.out.cell (zB w _ hw47_2)).trans hw47_2), ((HB.out.cell (zB w _ hw48_0)).trans hw48_0), ((HB.out.cell (zB w _ hw48_1)).trans hw48_1), ((HB.out.cell (zB w _ hw48_2)).trans hw48_2)⟩ (fun hHeld => ?_); clear hK K; refine norm_ (a' := ?_) ?_ ?_; rotate_left
               ·show Act.put _ (some 12) _ = _
                simp only [Act.put, zC, zD, zE, i64_w]; rfl
               exact norm_ (by simp only [putAll, Act.put, zC, zD, zE] <;> rfl) (hJ0_6 (v49, v51) _ ⟨hHeld, (by (with_reducible repeat first | apply zQ | apply zR | apply zS); exact yC HO50.out (fun _ hk => hk.2)), (by (with_reducible repeat first | apply zQ | apply zR | apply zS); exact yC HO52.out (fun _ hk => hk.2)), (by (with_reducible repeat (first | refine zL ?_ _ | refine zN ?_ | refine zM ?_ _)); exact BK46.out), (by repeat (first | (with_reducible first | exact HB.out | apply zH | apply zF | apply zG | refine zI ?_ GE46.out) | exact HB.out))⟩)
              ·skip
               refine box_step ?hg (N := 3) ?hd (cs := #[.slice none 0 0, .slice none 0 0, .slice none 0 0, .int .i64 0]) (t := 43) ?hr ?_; (case hd => rfl); (case hg => rfl); (case hr => first | (go_simp; done) | (go_simp; rfl)); intro gb53 hg w9 hbox hb; have n0_ := zA (Kd.R_below (by (with_reducible repeat first | apply zQ | apply zR | apply zS); exact HO50.out) hb); have n1_ := zA (yE (g := gb46) (o := .cells #[.slice none 0 0, .slice none 0 0, .slice none 0 0, .int .i64 0] 43 (0, 0)) (by (with_reducible repeat (first | refine zL ?_ _ | refine zN ?_ | refine zM ?_ _)); exact BK46.out) hb); have n2_ := zA (zAD (by repeat (first | (with_reducible first | exact HB.out | apply zH | apply zF | apply zG | refine zI ?_ GE46.out) | exact HB.out)) hb); have n3_ := zA (hbox); have n4_ := zA ((by rw [hg]; exact (zAE (by repeat (first | (with_reducible first | exact HB.out | apply zH | apply zF | apply zG | refine zI ?_ GE46.out) | exact HB.out))) : w.heap.size ≤ gb53)); have n5_ := zA ((by rw [hg]; exact (zAE (by repeat (first | (with_reducible first | exact HB.out | apply zH | apply zF | apply zG | refine zI ?_ GE46.out) | exact HB.out))) : w.heap.size ≤ gb53)); have n6_ := zA ((by rw [hg]; exact zK (blk_lt (g := gb46) (o := .cells #[.slice none 0 0, .slice none 0 0, .slice none 0 0, .int .i64 0] 43 (0, 0)) (by (with_reducible repeat (first | refine zL ?_ _ | refine zN ?_ | refine zM ?_ _)); exact BK46.out)) : gb46 ≠ gb53)); have n7_ := zA ((by rw [hg]; exact Nat.ne_of_gt (blk_lt (g := gb46) (o := .cells #[.slice none 0 0, .slice none 0 0, .slice none 0 0, .int .i64 0] 43 (0, 0)) (by (with_reducible repeat (first | refine zL ?_ _ | refine zN ?_ | refine zM ?_ _)); exact BK46.out)) : gb53 ≠ gb46)); clear HO50 BK46 HB; have HO50 := n0_; have BK46 := n1_; have HB := n2_; have BK53 := n3_; have GW53 := n4_; have GE53 := n5_; have NB46_53 := n6_; have NB53_46 := n7_; clear n0_ n1_ n2_ n3_ n4_ n5_ n6_ n7_ hb hbox hg; refine hK.out _ _ ⟨((HB.out.cell (zB w _ hw47_0)).trans hw47_0), ((HB.out.cell (zB w _ hw47_1)).trans hw47_1), ((HB.out.cell (zB w _ hw47_2)).trans hw47_2), ((HB.out.cell (zB w _ hw48_0)).trans hw48_0), ((HB.out.cell (zB w _ hw48_1)).trans hw48_1), ((HB.out.cell (zB w _ hw48_2)).trans hw48_2)⟩ (fun hHeld => ?_); clear hK K; refine norm_ (a' := ?_) ?_ ?_; rotate_left
               ·show Act.put _ (some 3) _ = _
                simp only [Act.put, zC, zD, zE, i64_w]; rfl
               exact norm_ (by simp only [putAll, Act.put, zC, zD, zE] <;> rfl) (hJ0_13 (v49, gb53) _ ⟨hHeld, (by (with_reducible repeat first | apply zQ | apply zR | apply zS); exact HO50.out), (by (with_reducible repeat (first | refine zL ?_ _ | refine zN ?_ | refine zM ?_ _)); exact BK46.out), (by (with_reducible repeat (first | refine zL ?_ _ | refine zN ?_ | refine zM ?_ _)); exact BK53.out), GW53.out, GE53.out, NB46_53.out, NB53_46.out, (by repeat (first | (with_reducible first | exact HB.out | apply zH | apply zF | apply zG | refine zI ?_ GE46.out | refine zI ?_ GE53.out) | exact HB.out))⟩)
            ·skip
             rintro ⟨v51, gb53⟩ w9 ⟨hS_, h0_, h1_, h2_, h3_, h4_, h5_, h6_, h7_⟩; have n0_ : Aside0 (Kd.R Kd.string 9 w9 w.heap.size (fun _ => True) v51 y42) := ⟨h0_⟩; have n1_ : Aside0 (w9.heap[gb46]? = some (.cells #[.slice none 0 0, .slice none 0 0, .slice none 0 0, .int .i64 0] 43 (0, 0))) := ⟨h1_⟩; have n2_ : Aside0 (w9.heap[gb53]? = some (.cells #[.slice none 0 0, .slice none 0 0, .slice none 0 0, .int .i64 0] 43 (0, 0))) := ⟨h2_⟩; have n3_ : Aside0 (w.heap.size ≤ gb53) := ⟨h3_⟩; have n4_ : Aside0 (w.heap.size ≤ gb53) := ⟨h4_⟩; have n5_ : Aside0 (gb46 ≠ gb53) := ⟨h5_⟩; have n6_ : Aside0 (gb53 ≠ gb46) := ⟨h6_⟩; have n7_ : Aside0 (Below w.heap.size w w9) := ⟨h7_⟩; clear BK46 HB h0_ h1_ h2_ h3_ h4_ h5_ h6_ h7_; have HO52 := n0_; have BK46 := n1_; have BK53 := n2_; have GW53 := n3_; have GE53 := n4_; have NB46_53 := n5_; have NB53_46 := n6_; have HB := n7_; clear n0_ n1_ n2_ n3_ n4_ n5_ n6_ n7_; have hHeld : w9.cell? ⟨a0.adr, 0, none⟩ = some (.slice An0_0 a0.f0.length cn0_0) ∧ w9.cell? ⟨a0.adr, 1, none⟩ = some (.slice An0_1 a0.f1.length cn0_1) ∧ w9.cell? ⟨a0.adr, 2, none⟩ = some (.slice An0_2 a0.f2.length cn0_2) ∧ w9.cell? ⟨a0.adr, 0, none⟩ = some (.slice An0_0 a0.f0.length cn0_0) ∧ w9.cell? ⟨a0.adr, 1, none⟩ = some (.slice An0_1 a0.f1.length cn0_1) ∧ w9.cell? ⟨a0.adr, 2, none⟩ = some (.slice An0_2 a0.f2.length cn0_2) := hS_; refine norm_ (a' := ?_) ?_ ?_; rotate_left
             ·simp only [putAll, Act.put, zC, zD, zE]
              rfl
             refine one_ (i := 0) (N := some 6) #[true, true, true, true, true, false, true, true, true, true, true, false, false, true, false] rfl rfl (one_of HT_.out (by kernel_rfl)) (by decide) (fun K hK => ?_); refine Kd.R_lit_step Kd.string _ 9 ?hg (N := 6) ?hd (xs := ([] : List ByteArray)) (inner := []) (ok := fun _ => True) (okp := fun _ => True) ?hr ?hp (fun _ hk => hk) trivial (Below.refl _ _) (Nat.le_refl _) (by simp) ?_; (case hd => rfl); (case hg => rfl); (case hr => first | (go_simp; done) | (go_simp; rfl)); (case hp => exact (Reps.none _ _)); intro v49 w10 ho11 hb hg_ hnew_; clear hg_ hnew_; (first | rw [← Ny41.out] at ho11 | (simp only [Int.reduceToNat] at ho11; rw [← Ny41.out] at ho11)); have n0_ := zA (yJ (by (with_reducible repeat first | apply zQ | apply zR | apply zS); exact HO52.out) (Kd.R_base ho11) hb); have n1_ := zA (Kd.R_lower (yK ho11 (Kd.R_lt (by (with_reducible repeat first | apply zQ | apply zR | apply zS); exact HO52.out))) (zAE (by repeat (first | (with_reducible first | exact HB.out | apply zH | apply zF | apply zG | refine zI ?_ GE46.out | refine zI ?_ GE53.out) | exact HB.out)))); have n2_ := zA (yE (g := gb46) (o := .cells #[.slice none 0 0, .slice none 0 0, .slice none 0 0, .int .i64 0] 43 (0, 0)) (by (with_reducible repeat (first | refine zL ?_ _ | refine zN ?_ | refine zM ?_ _)); exact BK46.out) hb); have n3_ := zA (yE (g := gb53) (o := .cells #[.slice none 0 0, .slice none 0 0, .slice none 0 0, .int .i64 0] 43 (0, 0)) (by (with_reducible repeat (first | refine zL ?_ _ | refine zN ?_ | refine zM ?_ _)); exact BK53.out) hb); have n4_ := zA (zAD (by repeat (first | (with_reducible first | exact HB.out | apply zH | apply zF | apply zG | refine zI ?_ GE46.out | refine zI ?_ GE53.out) | exact HB.out)) hb); clear HO52 BK46 BK53 HB; have HO52 := n0_; have HO50 := n1_; have BK46 := n2_; have BK53 := n3_; have HB := n4_; clear n0_ n1_ n2_ n3_ n4_ hb ho11; refine hK.out _ _ ⟨((HB.out.cell (zB w _ hw47_0)).trans hw47_0), ((HB.out.cell (zB w _ hw47_1)).trans hw47_1), ((HB.out.cell (zB w _ hw47_2)).trans hw47_2), ((HB.out.cell (zB w _ hw48_0)).trans hw48_0), ((HB.out.cell (zB w _ hw48_1)).trans hw48_1), ((HB.out.cell (zB w _ hw48_2)).trans hw48_2)⟩ (fun hHeld => ?_); clear hK K; refine norm_ (a' := ?_) ?_ ?_; rotate_left
             ·show Act.put _ (some 6) _ = _
              simp only [Act.put, zC, zD, zE, i64_w]; rfl
             exact norm_ (by simp only [putAll, Act.put, zC, zD, zE] <;> rfl) (hJ0_6_13 (v49, v51, gb53) _ ⟨hHeld, (by (with_reducible repeat first | apply zQ | apply zR | apply zS); exact yC HO50.out (fun _ hk => hk.2)), (by (with_reducible repeat first | apply zQ | apply zR | apply zS); exact yC HO52.out (fun _ hk => hk.2)), (by (with_reducible repeat (first | refine zL ?_ _ | refine zN ?_ | refine zM ?_ _)); exact BK46.out), (by (with_reducible repeat (first | refine zL ?_ _ | refine zN ?_ | refine zM ?_ _)); exact BK53.out), GW53.out, GE53.out, NB46_53.out, NB53_46.out, (by repeat (first | (with_reducible first | exact HB.out | apply zH | apply zF | apply zG | refine zI ?_ GE46.out | refine zI ?_ GE53.out) | exact HB.out))⟩)
           ·skip
            rintro ⟨v49, gb53⟩ w9 ⟨hS_, h0_, h1_, h2_, h3_, h4_, h5_, h6_, h7_⟩; have n0_ : Aside0 (Kd.R Kd.string 9 w9 w.heap.size (fun _ => True) v49 y41) := ⟨h0_⟩; have n1_ : Aside0 (w9.heap[gb46]? = some (.cells #[.slice none 0 0, .slice none 0 0, .slice none 0 0, .int .i64 0] 43 (0, 0))) := ⟨h1_⟩; have n2_ : Aside0 (w9.heap[gb53]? = some (.cells #[.slice none 0 0, .slice none 0 0, .slice none 0 0, .int .i64 0] 43 (0, 0))) := ⟨h2_⟩; have n3_ : Aside0 (w.heap.size ≤ gb53) := ⟨h3_⟩; have n4_ : Aside0 (w.heap.size ≤ gb53) := ⟨h4_⟩; have n5_ : Aside0 (gb46 ≠ gb53) := ⟨h5_⟩; have n6_ : Aside0 (gb53 ≠ gb46) := ⟨h6_⟩; have n7_ : Aside0 (Below w.heap.size w w9) := ⟨h7_⟩; clear BK46 HB h0_ h1_ h2_ h3_ h4_ h5_ h6_ h7_; have HO50 := n0_; have BK46 := n1_; have BK53 := n2_; have GW53 := n3_; have GE53 := n4_; have NB46_53 := n5_; have NB53_46 := n6_; have HB := n7_; clear n0_ n1_ n2_ n3_ n4_ n5_ n6_ n7_; have hHeld : w9.cell? ⟨a0.adr, 0, none⟩ = some (.slice An0_0 a0.f0.length cn0_0) ∧ w9.cell? ⟨a0.adr, 1, none⟩ = some (.slice An0_1 a0.f1.length cn0_1) ∧ w9.cell? ⟨a0.adr, 2, none⟩ = some (.slice An0_2 a0.f2.length cn0_2) ∧ w9.cell? ⟨a0.adr, 0, none⟩ = some (.slice An0_0 a0.f0.length cn0_0) ∧ w9.cell? ⟨a0.adr, 1, none⟩ = some (.slice An0_1 a0.f1.length cn0_1) ∧ w9.cell? ⟨a0.adr, 2, none⟩ = some (.slice An0_2 a0.f2.length cn0_2) := hS_; refine norm_ (a' := ?_) ?_ ?_; rotate_left
            ·simp only [putAll, Act.put, zC, zD, zE]
             rfl
            refine two_ (i := 5) (j := 6) (Ni := some 11) (Nj := some 12) #[true, true, true, true, true, true, false, true, true, true, true, false, false, true, false] #[true, true, true, true, true, false, true, true, true, true, true, false, false, true, false] rfl rfl rfl rfl (two_of HT_.out (by kernel_rfl)) (by decide) (by decide) (fun K hK => ?_) (fun K hK => ?_)
            ·skip
             refine Kd.R_append_rows_step Kd.string (w0 := w) w.heap.size (by rfl) (.tmp 6) (.tmp 10) 41 9 (.string ⟨#[]⟩) 16 rfl Try.underlying41 info9 rfl (by decide) (by omega) v49 y41 a0.f0 _ _ _ (fun _ => True) (fun _ => False) rfl rfl ?aO ?aR (fun _ _ h => h) (fun _ h => h.elim) ?aF ?aB ?aS ?aL ?_; (case aR => repeat (first | exact (yN HRn0_0.out HB.out) | (with_reducible first | refine zT ?_ _ | refine zU ?_ _ | refine zV ?_))); (case aB => exact (by repeat (first | (with_reducible first | exact HB.out | apply zH | apply zF | apply zG | refine zI ?_ GE46.out | refine zI ?_ GE53.out) | exact HB.out))); (case aF => exact (fun _ _ => trivial)); (case aO => exact (by (with_reducible repeat first | apply zQ | apply zR | apply zS); exact HO50.out)); (case aS => exact (zAE (by repeat (first | (with_reducible first | exact HB.out | apply zH | apply zF | apply zG | refine zI ?_ GE46.out | refine zI ?_ GE53.out) | exact HB.out)))); (case aL => have := LMc2.out; omega); intro v55 w10 ho hb hg hat; rw [← Ny44.out] at ho; have n0_ := zA (blk_grown (g := gb46) (o := .cells #[.slice none 0 0, .slice none 0 0, .slice none 0 0, .int .i64 0] 43 (0, 0)) (by (with_reducible repeat (first | refine zL ?_ _ | refine zN ?_ | refine zM ?_ _)); exact BK46.out) hg (Kd.R_ne HO50.out BK46.out (by decide))); have n1_ := zA (blk_grown (g := gb53) (o := .cells #[.slice none 0 0, .slice none 0 0, .slice none 0 0, .int .i64 0] 43 (0, 0)) (by (with_reducible repeat (first | refine zL ?_ _ | refine zN ?_ | refine zM ?_ _)); exact BK53.out) hg (Kd.R_ne HO50.out BK53.out (by decide))); have n2_ := zA (hb); have n3_ := zA (ho); clear BK46 BK53 HB HO50; have BK46 := n0_; have BK53 := n1_; have HB := n2_; have HO56 := n3_; clear n0_ n1_ n2_ n3_ ho hb hg hat; refine hK.out _ _ ⟨((HB.out.cell (zB w _ hw47_0)).trans hw47_0), ((HB.out.cell (zB w _ hw47_1)).trans hw47_1), ((HB.out.cell (zB w _ hw47_2)).trans hw47_2), ((HB.out.cell (zB w _ hw48_0)).trans hw48_0), ((HB.out.cell (zB w _ hw48_1)).trans hw48_1), ((HB.out.cell (zB w _ hw48_2)).trans hw48_2)⟩ (fun hHeld => ?_); clear hK K; refine norm_ (a' := ?_) ?_ ?_; rotate_left
             ·show Act.put _ (some 11) _ = _
              simp only [Act.put, zC, zD, zE, i64_w]; rfl
             exact norm_ (by simp only [putAll, Act.put, zC, zD, zE] <;> rfl) (hJ0_5_13 (v49, v55, gb53) _ ⟨hHeld, (by (with_reducible repeat first | apply zQ | apply zR | apply zS); exact HO56.out), (by (with_reducible repeat (first | refine zL ?_ _ | refine zN ?_ | refine zM ?_ _)); exact BK46.out), (by (with_reducible repeat (first | refine zL ?_ _ | refine zN ?_ | refine zM ?_ _)); exact BK53.out), GW53.out, GE53.out, NB46_53.out, NB53_46.out, (by repeat (first | (with_reducible first | exact HB.out | apply zH | apply zF | apply zG | refine zI ?_ GE46.out | refine zI ?_ GE53.out) | exact HB.out))⟩)
            ·skip
             refine Kd.R_lit_step Kd.string _ 9 ?hg (N := 12) ?hd (xs := ([] : List ByteArray)) (inner := []) (ok := fun _ => True) (okp := fun _ => True) ?hr ?hp (fun _ hk => hk) trivial (Below.refl _ _) (Nat.le_refl _) (by simp) ?_; (case hd => rfl); (case hg => rfl); (case hr => first | (go_simp; done) | (go_simp; rfl)); (case hp => exact (Reps.none _ _)); intro v51 w10 ho11 hb hg_ hnew_; clear hg_ hnew_; (first | rw [← Ny42.out] at ho11 | (simp only [Int.reduceToNat] at ho11; rw [← Ny42.out] at ho11)); have n0_ := zA (yJ (by (with_reducible repeat first | apply zQ | apply zR | apply zS); exact HO50.out) (Kd.R_base ho11) hb); have n1_ := zA (Kd.R_lower (yK ho11 (Kd.R_lt (by (with_reducible repeat first | apply zQ | apply zR | apply zS); exact HO50.out))) (zAE (by repeat (first | (with_reducible first | exact HB.out | apply zH | apply zF | apply zG | refine zI ?_ GE46.out | refine zI ?_ GE53.out) | exact HB.out)))); have n2_ := zA (yE (g := gb46) (o := .cells #[.slice none 0 0, .slice none 0 0, .slice none 0 0, .int .i64 0] 43 (0, 0)) (by (with_reducible repeat (first | refine zL ?_ _ | refine zN ?_ | refine zM ?_ _)); exact BK46.out) hb); have n3_ := zA (yE (g := gb53) (o := .cells #[.slice none 0 0, .slice none 0 0, .slice none 0 0, .int .i64 0] 43 (0, 0)) (by (with_reducible repeat (first | refine zL ?_ _ | refine zN ?_ | refine zM ?_ _)); exact BK53.out) hb); have n4_ := zA (zAD (by repeat (first | (with_reducible first | exact HB.out | apply zH | apply zF | apply zG | refine zI ?_ GE46.out | refine zI ?_ GE53.out) | exact HB.out)) hb); clear HO50 BK46 BK53 HB; have HO50 := n0_; have HO52 := n1_; have BK46 := n2_; have BK53 := n3_; have HB := n4_; clear n0_ n1_ n2_ n3_ n4_ hb ho11; refine hK.out _ _ ⟨((HB.out.cell (zB w _ hw47_0)).trans hw47_0), ((HB.out.cell (zB w _ hw47_1)).trans hw47_1), ((HB.out.cell (zB w _ hw47_2)).trans hw47_2), ((HB.out.cell (zB w _ hw48_0)).trans hw48_0), ((HB.out.cell (zB w _ hw48_1)).trans hw48_1), ((HB.out.cell (zB w _ hw48_2)).trans hw48_2)⟩ (fun hHeld => ?_); clear hK K; refine norm_ (a' := ?_) ?_ ?_; rotate_left
             ·show Act.put _ (some 12) _ = _
              simp only [Act.put, zC, zD, zE, i64_w]; rfl
             exact norm_ (by simp only [putAll, Act.put, zC, zD, zE] <;> rfl) (hJ0_6_13 (v49, v51, gb53) _ ⟨hHeld, (by (with_reducible repeat first | apply zQ | apply zR | apply zS); exact yC HO50.out (fun _ hk => hk.2)), (by (with_reducible repeat first | apply zQ | apply zR | apply zS); exact yC HO52.out (fun _ hk => hk.2)), (by (with_reducible repeat (first | refine zL ?_ _ | refine zN ?_ | refine zM ?_ _)); exact BK46.out), (by (with_reducible repeat (first | refine zL ?_ _ | refine zN ?_ | refine zM ?_ _)); exact BK53.out), GW53.out, GE53.out, NB46_53.out, NB53_46.out, (by repeat (first | (with_reducible first | exact HB.out | apply zH | apply zF | apply zG | refine zI ?_ GE46.out | refine zI ?_ GE53.out) | exact HB.out))⟩)
          ·skip
           rintro ⟨v49, v51⟩ w10 ⟨hS_, h0_, h1_, h2_, h3_⟩; have n0_ : Aside0 (Kd.R Kd.string 9 w10 w.heap.size (fun k_ => some k_ ≠ (v51 : Value).ownBlock) v49 y41) := ⟨h0_⟩; have n1_ : Aside0 (Kd.R Kd.string 9 w10 w.heap.size (fun k_ => some k_ ≠ (v49 : Value).ownBlock) v51 y42) := ⟨h1_⟩; have n2_ : Aside0 (w10.heap[gb46]? = some (.cells #[.slice none 0 0, .slice none 0 0, .slice none 0 0, .int .i64 0] 43 (0, 0))) := ⟨h2_⟩; have n3_ : Aside0 (Below w.heap.size w w10) := ⟨h3_⟩; clear BK46 HB h0_ h1_ h2_ h3_; have HO50 := n0_; have HO52 := n1_; have BK46 := n2_; have HB := n3_; clear n0_ n1_ n2_ n3_; have hHeld : w10.cell? ⟨a0.adr, 0, none⟩ = some (.slice An0_0 a0.f0.length cn0_0) ∧ w10.cell? ⟨a0.adr, 1, none⟩ = some (.slice An0_1 a0.f1.length cn0_1) ∧ w10.cell? ⟨a0.adr, 2, none⟩ = some (.slice An0_2 a0.f2.length cn0_2) ∧ w10.cell? ⟨a0.adr, 0, none⟩ = some (.slice An0_0 a0.f0.length cn0_0) ∧ w10.cell? ⟨a0.adr, 1, none⟩ = some (.slice An0_1 a0.f1.length cn0_1) ∧ w10.cell? ⟨a0.adr, 2, none⟩ = some (.slice An0_2 a0.f2.length cn0_2) := hS_; refine norm_ (a' := ?_) ?_ ?_; rotate_left
           ·simp only [putAll, Act.put, zC, zD, zE]
            rfl
           refine two_ (i := 5) (j := 13) (Ni := some 11) (Nj := some 3) #[true, true, true, true, true, true, true, true, true, true, true, false, false, false, false] #[true, true, true, true, true, false, true, true, true, true, true, false, false, true, false] rfl rfl rfl rfl (two_of HT_.out (by kernel_rfl)) (by decide) (by decide) (fun K hK => ?_) (fun K hK => ?_)
           ·skip
            refine Kd.R_append_rows_step Kd.string (w0 := w) w.heap.size (by rfl) (.tmp 6) (.tmp 10) 41 9 (.string ⟨#[]⟩) 16 rfl Try.underlying41 info9 rfl (by decide) (by omega) v49 y41 a0.f0 _ _ _ (fun k_ => some k_ ≠ (v51 : Value).ownBlock) (fun _ => False) rfl rfl ?aO ?aR (fun _ _ h => h) (fun _ h => h.elim) ?aF ?aB ?aS ?aL ?_; (case aR => repeat (first | exact (yN HRn0_0.out HB.out) | (with_reducible first | refine zT ?_ _ | refine zU ?_ _ | refine zV ?_))); (case aB => exact (by repeat (first | (with_reducible first | exact HB.out | apply zH | apply zF | apply zG | refine zI ?_ GE46.out) | exact HB.out))); (case aF => exact (fun k_ hk => Kd.fresh' (Kd.R_lt (by (with_reducible repeat first | apply zQ | apply zR | apply zS); exact HO52.out)) k_ hk)); (case aO => exact (by (with_reducible repeat first | apply zQ | apply zR | apply zS); exact HO50.out)); (case aS => exact (zAE (by repeat (first | (with_reducible first | exact HB.out | apply zH | apply zF | apply zG | refine zI ?_ GE46.out) | exact HB.out)))); (case aL => have := LMc2.out; omega); intro v55 w11 ho hb hg hat; rw [← Ny44.out] at ho; have n0_ := zA (blk_grown (g := gb46) (o := .cells #[.slice none 0 0, .slice none 0 0, .slice none 0 0, .int .i64 0] 43 (0, 0)) (by (with_reducible repeat (first | refine zL ?_ _ | refine zN ?_ | refine zM ?_ _)); exact BK46.out) hg (Kd.R_ne HO50.out BK46.out (by decide))); have n1_ := zA (Kd.R_after (ok := (fun _ => True)) (by (with_reducible repeat first | apply zQ | apply zR | apply zS); exact yC HO52.out (fun _ hk => ⟨trivial, hk⟩)) hg hat); have n2_ := zA (hb); have n3_ := zA (ho); clear BK46 HO52 HB HO50; have BK46 := n0_; have HO52 := n1_; have HB := n2_; have HO56 := n3_; clear n0_ n1_ n2_ n3_ ho hb hg hat; refine hK.out _ _ ⟨((HB.out.cell (zB w _ hw47_0)).trans hw47_0), ((HB.out.cell (zB w _ hw47_1)).trans hw47_1), ((HB.out.cell (zB w _ hw47_2)).trans hw47_2), ((HB.out.cell (zB w _ hw48_0)).trans hw48_0), ((HB.out.cell (zB w _ hw48_1)).trans hw48_1), ((HB.out.cell (zB w _ hw48_2)).trans hw48_2)⟩ (fun hHeld => ?_); clear hK K; refine norm_ (a' := ?_) ?_ ?_; rotate_left
            ·show Act.put _ (some 11) _ = _
             simp only [Act.put, zC, zD, zE, i64_w]; rfl
            exact norm_ (by simp only [putAll, Act.put, zC, zD, zE] <;> rfl) (hJ0_5_6 (v49, v55, v51) _ ⟨hHeld, (by (with_reducible repeat first | apply zQ | apply zR | apply zS); exact HO56.out), (by (with_reducible repeat first | apply zQ | apply zR | apply zS); exact yC HO52.out (fun _ hk => hk.2)), (by (with_reducible repeat (first | refine zL ?_ _ | refine zN ?_ | refine zM ?_ _)); exact BK46.out), (by repeat (first | (with_reducible first | exact HB.out | apply zH | apply zF | apply zG | refine zI ?_ GE46.out) | exact HB.out))⟩)
           ·skip
            refine box_step ?hg (N := 3) ?hd (cs := #[.slice none 0 0, .slice none 0 0, .slice none 0 0, .int .i64 0]) (t := 43) ?hr ?_; (case hd => rfl); (case hg => rfl); (case hr => first | (go_simp; done) | (go_simp; rfl)); intro gb53 hg w11 hbox hb; have n0_ := zA (Kd.R_below (by (with_reducible repeat first | apply zQ | apply zR | apply zS); exact HO50.out) hb); have n1_ := zA (Kd.R_below (by (with_reducible repeat first | apply zQ | apply zR | apply zS); exact HO52.out) hb); have n2_ := zA (yE (g := gb46) (o := .cells #[.slice none 0 0, .slice none 0 0, .slice none 0 0, .int .i64 0] 43 (0, 0)) (by (with_reducible repeat (first | refine zL ?_ _ | refine zN ?_ | refine zM ?_ _)); exact BK46.out) hb); have n3_ := zA (zAD (by repeat (first | (with_reducible first | exact HB.out | apply zH | apply zF | apply zG | refine zI ?_ GE46.out) | exact HB.out)) hb); have n4_ := zA (hbox); have n5_ := zA ((by rw [hg]; exact (zAE (by repeat (first | (with_reducible first | exact HB.out | apply zH | apply zF | apply zG | refine zI ?_ GE46.out) | exact HB.out))) : w.heap.size ≤ gb53)); have n6_ := zA ((by rw [hg]; exact (zAE (by repeat (first | (with_reducible first | exact HB.out | apply zH | apply zF | apply zG | refine zI ?_ GE46.out) | exact HB.out))) : w.heap.size ≤ gb53)); have n7_ := zA ((by rw [hg]; exact zK (blk_lt (g := gb46) (o := .cells #[.slice none 0 0, .slice none 0 0, .slice none 0 0, .int .i64 0] 43 (0, 0)) (by (with_reducible repeat (first | refine zL ?_ _ | refine zN ?_ | refine zM ?_ _)); exact BK46.out)) : gb46 ≠ gb53)); have n8_ := zA ((by rw [hg]; exact Nat.ne_of_gt (blk_lt (g := gb46) (o := .cells #[.slice none 0 0, .slice none 0 0, .slice none 0 0, .int .i64 0] 43 (0, 0)) (by (with_reducible repeat (first | refine zL ?_ _ | refine zN ?_ | refine zM ?_ _)); exact BK46.out)) : gb53 ≠ gb46)); clear HO50 HO52 BK46 HB; have HO50 := n0_; have HO52 := n1_; have BK46 := n2_; have HB := n3_; have BK53 := n4_; have GW53 := n5_; have GE53 := n6_; have NB46_53 := n7_; have NB53_46 := n8_; clear n0_ n1_ n2_ n3_ n4_ n5_ n6_ n7_ n8_ hb hbox hg; refine hK.out _ _ ⟨((HB.out.cell (zB w _ hw47_0)).trans hw47_0), ((HB.out.cell (zB w _ hw47_1)).trans hw47_1), ((HB.out.cell (zB w _ hw47_2)).trans hw47_2), ((HB.out.cell (zB w _ hw48_0)).trans hw48_0), ((HB.out.cell (zB w _ hw48_1)).trans hw48_1), ((HB.out.cell (zB w _ hw48_2)).trans hw48_2)⟩ (fun hHeld => ?_); clear hK K; refine norm_ (a' := ?_) ?_ ?_; rotate_left
            ·show Act.put _ (some 3) _ = _
             simp only [Act.put, zC, zD, zE, i64_w]; rfl
            exact norm_ (by simp only [putAll, Act.put, zC, zD, zE] <;> rfl) (hJ0_6_13 (v49, v51, gb53) _ ⟨hHeld, (by (with_reducible repeat first | apply zQ | apply zR | apply zS); exact HO50.out), (by (with_reducible repeat first | apply zQ | apply zR | apply zS); exact HO52.out), (by (with_reducible repeat (first | refine zL ?_ _ | refine zN ?_ | refine zM ?_ _)); exact BK46.out), (by (with_reducible repeat (first | refine zL ?_ _ | refine zN ?_ | refine zM ?_ _)); exact BK53.out), GW53.out, GE53.out, NB46_53.out, NB53_46.out, (by repeat (first | (with_reducible first | exact HB.out | apply zH | apply zF | apply zG | refine zI ?_ GE46.out | refine zI ?_ GE53.out) | exact HB.out))⟩)
         ·skip
          rintro ⟨v49, v55⟩ w9 ⟨hS_, h0_, h1_, h2_⟩; have n0_ : Aside0 (Kd.R Kd.string 9 w9 w.heap.size (fun _ => True) v55 y44) := ⟨h0_⟩; have n1_ : Aside0 (w9.heap[gb46]? = some (.cells #[.slice none 0 0, .slice none 0 0, .slice none 0 0, .int .i64 0] 43 (0, 0))) := ⟨h1_⟩; have n2_ : Aside0 (Below w.heap.size w w9) := ⟨h2_⟩; clear BK46 HB h0_ h1_ h2_; have HO56 := n0_; have BK46 := n1_; have HB := n2_; clear n0_ n1_ n2_; have hHeld : w9.cell? ⟨a0.adr, 0, none⟩ = some (.slice An0_0 a0.f0.length cn0_0) ∧ w9.cell? ⟨a0.adr, 1, none⟩ = some (.slice An0_1 a0.f1.length cn0_1) ∧ w9.cell? ⟨a0.adr, 2, none⟩ = some (.slice An0_2 a0.f2.length cn0_2) ∧ w9.cell? ⟨a0.adr, 0, none⟩ = some (.slice An0_0 a0.f0.length cn0_0) ∧ w9.cell? ⟨a0.adr, 1, none⟩ = some (.slice An0_1 a0.f1.length cn0_1) ∧ w9.cell? ⟨a0.adr, 2, none⟩ = some (.slice An0_2 a0.f2.length cn0_2) := hS_; refine norm_ (a' := ?_) ?_ ?_; rotate_left
          ·simp only [putAll, Act.put, zC, zD, zE]
           rfl
          refine two_ (i := 6) (j := 13) (Ni := some 12) (Nj := some 3) #[true, true, true, true, true, true, true, true, true, true, true, false, false, false, false] #[true, true, true, true, true, true, false, true, true, true, true, false, false, true, false] rfl rfl rfl rfl (two_of HT_.out (by kernel_rfl)) (by decide) (by decide) (fun K hK => ?_) (fun K hK => ?_)
          ·skip
           refine Kd.R_lit_step Kd.string _ 9 ?hg (N := 12) ?hd (xs := ([] : List ByteArray)) (inner := []) (ok := fun _ => True) (okp := fun _ => True) ?hr ?hp (fun _ hk => hk) trivial (Below.refl _ _) (Nat.le_refl _) (by simp) ?_; (case hd => rfl); (case hg => rfl); (case hr => first | (go_simp; done) | (go_simp; rfl)); (case hp => exact (Reps.none _ _)); intro v51 w10 ho11 hb hg_ hnew_; clear hg_ hnew_; (first | rw [← Ny42.out] at ho11 | (simp only [Int.reduceToNat] at ho11; rw [← Ny42.out] at ho11)); have n0_ := zA (yJ (by (with_reducible repeat first | apply zQ | apply zR | apply zS); exact HO56.out) (Kd.R_base ho11) hb); have n1_ := zA (Kd.R_lower (yK ho11 (Kd.R_lt (by (with_reducible repeat first | apply zQ | apply zR | apply zS); exact HO56.out))) (zAE (by repeat (first | (with_reducible first | exact HB.out | apply zH | apply zF | apply zG | refine zI ?_ GE46.out) | exact HB.out)))); have n2_ := zA (yE (g := gb46) (o := .cells #[.slice none 0 0, .slice none 0 0, .slice none 0 0, .int .i64 0] 43 (0, 0)) (by (with_reducible repeat (first | refine zL ?_ _ | refine zN ?_ | refine zM ?_ _)); exact BK46.out) hb); have n3_ := zA (zAD (by repeat (first | (with_reducible first | exact HB.out | apply zH | apply zF | apply zG | refine zI ?_ GE46.out) | exact HB.out)) hb); clear HO56 BK46 HB; have HO56 := n0_; have HO52 := n1_; have BK46 := n2_; have HB := n3_; clear n0_ n1_ n2_ n3_ hb ho11; refine hK.out _ _ ⟨((HB.out.cell (zB w _ hw47_0)).trans hw47_0), ((HB.out.cell (zB w _ hw47_1)).trans hw47_1), ((HB.out.cell (zB w _ hw47_2)).trans hw47_2), ((HB.out.cell (zB w _ hw48_0)).trans hw48_0), ((HB.out.cell (zB w _ hw48_1)).trans hw48_1), ((HB.out.cell (zB w _ hw48_2)).trans hw48_2)⟩ (fun hHeld => ?_); clear hK K; refine norm_ (a' := ?_) ?_ ?_; rotate_left
           ·show Act.put _ (some 12) _ = _
            simp only [Act.put, zC, zD, zE, i64_w]; rfl
           exact norm_ (by simp only [putAll, Act.put, zC, zD, zE] <;> rfl) (hJ0_5_6 (v49, v55, v51) _ ⟨hHeld, (by (with_reducible repeat first | apply zQ | apply zR | apply zS); exact yC HO56.out (fun _ hk => hk.2)), (by (with_reducible repeat first | apply zQ | apply zR | apply zS); exact yC HO52.out (fun _ hk => hk.2)), (by (with_reducible repeat (first | refine zL ?_ _ | refine zN ?_ | refine zM ?_ _)); exact BK46.out), (by repeat (first | (with_reducible first | exact HB.out | apply zH | apply zF | apply zG | refine zI ?_ GE46.out) | exact HB.out))⟩)
          ·skip
           refine box_step ?hg (N := 3) ?hd (cs := #[.slice none 0 0, .slice none 0 0, .slice none 0 0, .int .i64 0]) (t := 43) ?hr ?_; (case hd => rfl); (case hg => rfl); (case hr => first | (go_simp; done) | (go_simp; rfl)); intro gb53 hg w10 hbox hb; have n0_ := zA (Kd.R_below (by (with_reducible repeat first | apply zQ | apply zR | apply zS); exact HO56.out) hb); have n1_ := zA (yE (g := gb46) (o := .cells #[.slice none 0 0, .slice none 0 0, .slice none 0 0, .int .i64 0] 43 (0, 0)) (by (with_reducible repeat (first | refine zL ?_ _ | refine zN ?_ | refine zM ?_ _)); exact BK46.out) hb); have n2_ := zA (zAD (by repeat (first | (with_reducible first | exact HB.out | apply zH | apply zF | apply zG | refine zI ?_ GE46.out) | exact HB.out)) hb); have n3_ := zA (hbox); have n4_ := zA ((by rw [hg]; exact (zAE (by repeat (first | (with_reducible first | exact HB.out | apply zH | apply zF | apply zG | refine zI ?_ GE46.out) | exact HB.out))) : w.heap.size ≤ gb53)); have n5_ := zA ((by rw [hg]; exact (zAE (by repeat (first | (with_reducible first | exact HB.out | apply zH | apply zF | apply zG | refine zI ?_ GE46.out) | exact HB.out))) : w.heap.size ≤ gb53)); have n6_ := zA ((by rw [hg]; exact zK (blk_lt (g := gb46) (o := .cells #[.slice none 0 0, .slice none 0 0, .slice none 0 0, .int .i64 0] 43 (0, 0)) (by (with_reducible repeat (first | refine zL ?_ _ | refine zN ?_ | refine zM ?_ _)); exact BK46.out)) : gb46 ≠ gb53)); have n7_ := zA ((by rw [hg]; exact Nat.ne_of_gt (blk_lt (g := gb46) (o := .cells #[.slice none 0 0, .slice none 0 0, .slice none 0 0, .int .i64 0] 43 (0, 0)) (by (with_reducible repeat (first | refine zL ?_ _ | refine zN ?_ | refine zM ?_ _)); exact BK46.out)) : gb53 ≠ gb46)); clear HO56 BK46 HB; have HO56 := n0_; have BK46 := n1_; have HB := n2_; have BK53 := n3_; have GW53 := n4_; have GE53 := n5_; have NB46_53 := n6_; have NB53_46 := n7_; clear n0_ n1_ n2_ n3_ n4_ n5_ n6_ n7_ hb hbox hg; refine hK.out _ _ ⟨((HB.out.cell (zB w _ hw47_0)).trans hw47_0), ((HB.out.cell (zB w _ hw47_1)).trans hw47_1), ((HB.out.cell (zB w _ hw47_2)).trans hw47_2), ((HB.out.cell (zB w _ hw48_0)).trans hw48_0), ((HB.out.cell (zB w _ hw48_1)).trans hw48_1), ((HB.out.cell (zB w _ hw48_2)).trans hw48_2)⟩ (fun hHeld => ?_); clear hK K; refine norm_ (a' := ?_) ?_ ?_; rotate_left
           ·show Act.put _ (some 3) _ = _
            simp only [Act.put, zC, zD, zE, i64_w]; rfl
           exact norm_ (by simp only [putAll, Act.put, zC, zD, zE] <;> rfl) (hJ0_5_13 (v49, v55, gb53) _ ⟨hHeld, (by (with_reducible repeat first | apply zQ | apply zR | apply zS); exact HO56.out), (by (with_reducible repeat (first | refine zL ?_ _ | refine zN ?_ | refine zM ?_ _)); exact BK46.out), (by (with_reducible repeat (first | refine zL ?_ _ | refine zN ?_ | refine zM ?_ _)); exact BK53.out), GW53.out, GE53.out, NB46_53.out, NB53_46.out, (by repeat (first | (with_reducible first | exact HB.out | apply zH | apply zF | apply zG | refine zI ?_ GE46.out | refine zI ?_ GE53.out) | exact HB.out))⟩)
        ·skip
         rintro ⟨v49, v51, gb53⟩ w11 ⟨hS_, h0_, h1_, h2_, h3_, h4_, h5_, h6_, h7_, h8_⟩; have n0_ : Aside0 (Kd.R Kd.string 9 w11 w.heap.size (fun k_ => some k_ ≠ (v51 : Value).ownBlock) v49 y41) := ⟨h0_⟩; have n1_ : Aside0 (Kd.R Kd.string 9 w11 w.heap.size (fun k_ => some k_ ≠ (v49 : Value).ownBlock) v51 y42) := ⟨h1_⟩; have n2_ : Aside0 (w11.heap[gb46]? = some (.cells #[.slice none 0 0, .slice none 0 0, .slice none 0 0, .int .i64 0] 43 (0, 0))) := ⟨h2_⟩; have n3_ : Aside0 (w11.heap[gb53]? = some (.cells #[.slice none 0 0, .slice none 0 0, .slice none 0 0, .int .i64 0] 43 (0, 0))) := ⟨h3_⟩; have n4_ : Aside0 (w.heap.size ≤ gb53) := ⟨h4_⟩; have n5_ : Aside0 (w.heap.size ≤ gb53) := ⟨h5_⟩; have n6_ : Aside0 (gb46 ≠ gb53) := ⟨h6_⟩; have n7_ : Aside0 (gb53 ≠ gb46) := ⟨h7_⟩; have n8_ : Aside0 (Below w.heap.size w w11) := ⟨h8_⟩; clear BK46 HB h0_ h1_ h2_ h3_ h4_ h5_ h6_ h7_ h8_; have HO50 := n0_; have HO52 := n1_; have BK46 := n2_; have BK53 := n3_; have GW53 := n4_; have GE53 := n5_; have NB46_53 := n6_; have NB53_46 := n7_; have HB := n8_; clear n0_ n1_ n2_ n3_ n4_ n5_ n6_ n7_ n8_; have hHeld : w11.cell? ⟨a0.adr, 0, none⟩ = some (.slice An0_0 a0.f0.length cn0_0) ∧ w11.cell? ⟨a0.adr, 1, none⟩ = some (.slice An0_1 a0.f1.length cn0_1) ∧ w11.cell? ⟨a0.adr, 2, none⟩ = some (.slice An0_2 a0.f2.length cn0_2) ∧ w11.cell? ⟨a0.adr, 0, none⟩ = some (.slice An0_0 a0.f0.length cn0_0) ∧ w11.cell? ⟨a0.adr, 1, none⟩ = some (.slice An0_1 a0.f1.length cn0_1) ∧ w11.cell? ⟨a0.adr, 2, none⟩ = some (.slice An0_2 a0.f2.length cn0_2) := hS_; refine norm_ (a' := ?_) ?_ ?_; rotate_left
         ·simp only [putAll, Act.put, zC, zD, zE]
          rfl
         refine one_ (i := 5) (N := some 11) #[true, true, true, true, true, true, true, true, true, true, true, false, false, true, false] rfl rfl (one_of HT_.out (by kernel_rfl)) (by decide) (fun K hK => ?_); refine Kd.R_append_rows_step Kd.string (w0 := w) w.heap.size (by rfl) (.tmp 6) (.tmp 10) 41 9 (.string ⟨#[]⟩) 16 rfl Try.underlying41 info9 rfl (by decide) (by omega) v49 y41 a0.f0 _ _ _ (fun k_ => some k_ ≠ (v51 : Value).ownBlock) (fun _ => False) rfl rfl ?aO ?aR (fun _ _ h => h) (fun _ h => h.elim) ?aF ?aB ?aS ?aL ?_; (case aR => repeat (first | exact (yN HRn0_0.out HB.out) | (with_reducible first | refine zT ?_ _ | refine zU ?_ _ | refine zV ?_))); (case aB => exact (by repeat (first | (with_reducible first | exact HB.out | apply zH | apply zF | apply zG | refine zI ?_ GE46.out | refine zI ?_ GE53.out) | exact HB.out))); (case aF => exact (fun k_ hk => Kd.fresh' (Kd.R_lt (by (with_reducible repeat first | apply zQ | apply zR | apply zS); exact HO52.out)) k_ hk)); (case aO => exact (by (with_reducible repeat first | apply zQ | apply zR | apply zS); exact HO50.out)); (case aS => exact (zAE (by repeat (first | (with_reducible first | exact HB.out | apply zH | apply zF | apply zG | refine zI ?_ GE46.out | refine zI ?_ GE53.out) | exact HB.out)))); (case aL => have := LMc2.out; omega); intro v55 w12 ho hb hg hat; rw [← Ny44.out] at ho; have n0_ := zA (blk_grown (g := gb46) (o := .cells #[.slice none 0 0, .slice none 0 0, .slice none 0 0, .int .i64 0] 43 (0, 0)) (by (with_reducible repeat (first | refine zL ?_ _ | refine zN ?_ | refine zM ?_ _)); exact BK46.out) hg (Kd.R_ne HO50.out BK46.out (by decide))); have n1_ := zA (Kd.R_after (ok := (fun _ => True)) (by (with_reducible repeat first | apply zQ | apply zR | apply zS); exact yC HO52.out (fun _ hk => ⟨trivial, hk⟩)) hg hat); have n2_ := zA (blk_grown (g := gb53) (o := .cells #[.slice none 0 0, .slice none 0 0, .slice none 0 0, .int .i64 0] 43 (0, 0)) (by (with_reducible repeat (first | refine zL ?_ _ | refine zN ?_ | refine zM ?_ _)); exact BK53.out) hg (Kd.R_ne HO50.out BK53.out (by decide))); have n3_ := zA (hb); have n4_ := zA (ho); clear BK46 HO52 BK53 HB HO50; have BK46 := n0_; have HO52 := n1_; have BK53 := n2_; have HB := n3_; have HO56 := n4_; clear n0_ n1_ n2_ n3_ n4_ ho hb hg hat; refine hK.out _ _ ⟨((HB.out.cell (zB w _ hw47_0)).trans hw47_0), ((HB.out.cell (zB w _ hw47_1)).trans hw47_1), ((HB.out.cell (zB w _ hw47_2)).trans hw47_2), ((HB.out.cell (zB w _ hw48_0)).trans hw48_0), ((HB.out.cell (zB w _ hw48_1)).trans hw48_1), ((HB.out.cell (zB w _ hw48_2)).trans hw48_2)⟩ (fun hHeld => ?_); clear hK K; refine norm_ (a' := ?_) ?_ ?_; rotate_left
         ·show Act.put _ (some 11) _ = _
          simp only [Act.put, zC, zD, zE, i64_w]; rfl
         exact norm_ (by simp only [putAll, Act.put, zC, zD, zE] <;> rfl) (hJ0_5_6_13 (v49, v55, v51, gb53) _ ⟨hHeld, (by (with_reducible repeat first | apply zQ | apply zR | apply zS); exact HO56.out), (by (with_reducible repeat first | apply zQ | apply zR | apply zS); exact yC HO52.out (fun _ hk => hk.2)), (by (with_reducible repeat (first | refine zL ?_ _ | refine zN ?_ | refine zM ?_ _)); exact BK46.out), (by (with_reducible repeat (first | refine zL ?_ _ | refine zN ?_ | refine zM ?_ _)); exact BK53.out), GW53.out, GE53.out, NB46_53.out, NB53_46.out, (by repeat (first | (with_reducible first | exact HB.out | apply zH | apply zF | apply zG | refine zI ?_ GE46.out | refine zI ?_ GE53.out) | exact HB.out))⟩)
       ·skip
        rintro ⟨v49, v55, gb53⟩ w10 ⟨hS_, h0_, h1_, h2_, h3_, h4_, h5_, h6_, h7_⟩; have n0_ : Aside0 (Kd.R Kd.string 9 w10 w.heap.size (fun _ => True) v55 y44) := ⟨h0_⟩; have n1_ : Aside0 (w10.heap[gb46]? = some (.cells #[.slice none 0 0, .slice none 0 0, .slice none 0 0, .int .i64 0] 43 (0, 0))) := ⟨h1_⟩; have n2_ : Aside0 (w10.heap[gb53]? = some (.cells #[.slice none 0 0, .slice none 0 0, .slice none 0 0, .int .i64 0] 43 (0, 0))) := ⟨h2_⟩; have n3_ : Aside0 (w.heap.size ≤ gb53) := ⟨h3_⟩; have n4_ : Aside0 (w.heap.size ≤ gb53) := ⟨h4_⟩; have n5_ : Aside0 (gb46 ≠ gb53) := ⟨h5_⟩; have n6_ : Aside0 (gb53 ≠ gb46) := ⟨h6_⟩; have n7_ : Aside0 (Below w.heap.size w w10) := ⟨h7_⟩; clear BK46 HB h0_ h1_ h2_ h3_ h4_ h5_ h6_ h7_; have HO56 := n0_; have BK46 := n1_; have BK53 := n2_; have GW53 := n3_; have GE53 := n4_; have NB46_53 := n5_; have NB53_46 := n6_; have HB := n7_; clear n0_ n1_ n2_ n3_ n4_ n5_ n6_ n7_; have hHeld : w10.cell? ⟨a0.adr, 0, none⟩ = some (.slice An0_0 a0.f0.length cn0_0) ∧ w10.cell? ⟨a0.adr, 1, none⟩ = some (.slice An0_1 a0.f1.length cn0_1) ∧ w10.cell? ⟨a0.adr, 2, none⟩ = some (.slice An0_2 a0.f2.length cn0_2) ∧ w10.cell? ⟨a0.adr, 0, none⟩ = some (.slice An0_0 a0.f0.length cn0_0) ∧ w10.cell? ⟨a0.adr, 1, none⟩ = some (.slice An0_1 a0.f1.length cn0_1) ∧ w10.cell? ⟨a0.adr, 2, none⟩ = some (.slice An0_2 a0.f2.length cn0_2) := hS_; refine norm_ (a' := ?_) ?_ ?_; rotate_left
        ·simp only [putAll, Act.put, zC, zD, zE]
         rfl
        refine one_ (i := 6) (N := some 12) #[true, true, true, true, true, true, true, true, true, true, true, false, false, true, false] rfl rfl (one_of HT_.out (by kernel_rfl)) (by decide) (fun K hK => ?_); refine Kd.R_lit_step Kd.string _ 9 ?hg (N := 12) ?hd (xs := ([] : List ByteArray)) (inner := []) (ok := fun _ => True) (okp := fun _ => True) ?hr ?hp (fun _ hk => hk) trivial (Below.refl _ _) (Nat.le_refl _) (by simp) ?_; (case hd => rfl); (case hg => rfl); (case hr => first | (go_simp; done) | (go_simp; rfl)); (case hp => exact (Reps.none _ _)); intro v51 w11 ho12 hb hg_ hnew_; clear hg_ hnew_; (first | rw [← Ny42.out] at ho12 | (simp only [Int.reduceToNat] at ho12; rw [← Ny42.out] at ho12)); have n0_ := zA (yJ (by (with_reducible repeat first | apply zQ | apply zR | apply zS); exact HO56.out) (Kd.R_base ho12) hb); have n1_ := zA (Kd.R_lower (yK ho12 (Kd.R_lt (by (with_reducible repeat first | apply zQ | apply zR | apply zS); exact HO56.out))) (zAE (by repeat (first | (with_reducible first | exact HB.out | apply zH | apply zF | apply zG | refine zI ?_ GE46.out | refine zI ?_ GE53.out) | exact HB.out)))); have n2_ := zA (yE (g := gb46) (o := .cells #[.slice none 0 0, .slice none 0 0, .slice none 0 0, .int .i64 0] 43 (0, 0)) (by (with_reducible repeat (first | refine zL ?_ _ | refine zN ?_ | refine zM ?_ _)); exact BK46.out) hb); have n3_ := zA (yE (g := gb53) (o := .cells #[.slice none 0 0, .slice none 0 0, .slice none 0 0, .int .i64 0] 43 (0, 0)) (by (with_reducible repeat (first | refine zL ?_ _ | refine zN ?_ | refine zM ?_ _)); exact BK53.out) hb); have n4_ := zA (zAD (by repeat (first | (with_reducible first | exact HB.out | apply zH | apply zF | apply zG | refine zI ?_ GE46.out | refine zI ?_ GE53.out) | exact HB.out)) hb); clear HO56 BK46 BK53 HB; have HO56 := n0_; have HO52 := n1_; have BK46 := n2_; have BK53 := n3_; have HB := n4_; clear n0_ n1_ n2_ n3_ n4_ hb ho12; refine hK.out _ _ ⟨((HB.out.cell (zB w _ hw47_0)).trans hw47_0), ((HB.out.cell (zB w _ hw47_1)).trans hw47_1), ((HB.out.cell (zB w _ hw47_2)).trans hw47_2), ((HB.out.cell (zB w _ hw48_0)).trans hw48_0), ((HB.out.cell (zB w _ hw48_1)).trans hw48_1), ((HB.out.cell (zB w _ hw48_2)).trans hw48_2)⟩ (fun hHeld => ?_); clear hK K; refine norm_ (a' := ?_) ?_ ?_; rotate_left
        ·show Act.put _ (some 12) _ = _
         simp only [Act.put, zC, zD, zE, i64_w]; rfl
        exact norm_ (by simp only [putAll, Act.put, zC, zD, zE] <;> rfl) (hJ0_5_6_13 (v49, v55, v51, gb53) _ ⟨hHeld, (by (with_reducible repeat first | apply zQ | apply zR | apply zS); exact yC HO56.out (fun _ hk => hk.2)), (by (with_reducible repeat first | apply zQ | apply zR | apply zS); exact yC HO52.out (fun _ hk => hk.2)), (by (with_reducible repeat (first | refine zL ?_ _ | refine zN ?_ | refine zM ?_ _)); exact BK46.out), (by (with_reducible repeat (first | refine zL ?_ _ | refine zN ?_ | refine zM ?_ _)); exact BK53.out), GW53.out, GE53.out, NB46_53.out, NB53_46.out, (by repeat (first | (with_reducible first | exact HB.out | apply zH | apply zF | apply zG | refine zI ?_ GE46.out | refine zI ?_ GE53.out) | exact HB.out))⟩)
      ·skip
       rintro ⟨v49, v55, v51⟩ w11 ⟨hS_, h0_, h1_, h2_, h3_⟩; have n0_ : Aside0 (Kd.R Kd.string 9 w11 w.heap.size (fun k_ => some k_ ≠ (v51 : Value).ownBlock) v55 y44) := ⟨h0_⟩; have n1_ : Aside0 (Kd.R Kd.string 9 w11 w.heap.size (fun k_ => some k_ ≠ (v55 : Value).ownBlock) v51 y42) := ⟨h1_⟩; have n2_ : Aside0 (w11.heap[gb46]? = some (.cells #[.slice none 0 0, .slice none 0 0, .slice none 0 0, .int .i64 0] 43 (0, 0))) := ⟨h2_⟩; have n3_ : Aside0 (Below w.heap.size w w11) := ⟨h3_⟩; clear BK46 HB h0_ h1_ h2_ h3_; have HO56 := n0_; have HO52 := n1_; have BK46 := n2_; have HB := n3_; clear n0_ n1_ n2_ n3_; have hHeld : w11.cell? ⟨a0.adr, 0, none⟩ = some (.slice An0_0 a0.f0.length cn0_0) ∧ w11.cell? ⟨a0.adr, 1, none⟩ = some (.slice An0_1 a0.f1.length cn0_1) ∧ w11.cell? ⟨a0.adr, 2, none⟩ = some (.slice An0_2 a0.f2.length cn0_2) ∧ w11.cell? ⟨a0.adr, 0, none⟩ = some (.slice An0_0 a0.f0.length cn0_0) ∧ w11.cell? ⟨a0.adr, 1, none⟩ = some (.slice An0_1 a0.f1.length cn0_1) ∧ w11.cell? ⟨a0.adr, 2, none⟩ = some (.slice An0_2 a0.f2.length cn0_2) := hS_; refine norm_ (a' := ?_) ?_ ?_; rotate_left
       ·simp only [putAll, Act.put, zC, zD, zE]
        rfl
       refine two_ (i := 11) (j := 13) (Ni := some 17) (Nj := some 3) #[true, true, true, true, true, true, true, true, true, true, true, true, false, false, false] #[true, true, true, true, true, true, true, true, true, true, true, false, false, true, false] rfl rfl rfl rfl (two_of HT_.out (by kernel_rfl)) (by decide) (by decide) (fun K hK => ?_) (fun K hK => ?_)
       ·skip
        refine Kd.R_append_rows_step Kd.string (w0 := w) w.heap.size (by rfl) (.tmp 12) (.tmp 16) 41 9 (.string ⟨#[]⟩) 16 rfl Try.underlying41 info9 rfl (by decide) (by omega) v51 y42 a0.f1 _ _ _ (fun k_ => some k_ ≠ (v55 : Value).ownBlock) (fun _ => False) rfl rfl ?aO ?aR (fun _ _ h => h) (fun _ h => h.elim) ?aF ?aB ?aS ?aL ?_; (case aR => repeat (first | exact (yN HRn0_1.out HB.out) | (with_reducible first | refine zT ?_ _ | refine zU ?_ _ | refine zV ?_))); (case aB => exact (by repeat (first | (with_reducible first | exact HB.out | apply zH | apply zF | apply zG | refine zI ?_ GE46.out) | exact HB.out))); (case aF => exact (fun k_ hk => Kd.fresh' (Kd.R_lt (by (with_reducible repeat first | apply zQ | apply zR | apply zS); exact HO56.out)) k_ hk)); (case aO => exact (by (with_reducible repeat first | apply zQ | apply zR | apply zS); exact HO52.out)); (case aS => exact (zAE (by repeat (first | (with_reducible first | exact HB.out | apply zH | apply zF | apply zG | refine zI ?_ GE46.out) | exact HB.out)))); (case aL => have := LMc3.out; omega); intro v57 w12 ho hb hg hat; rw [← Ny45.out] at ho; have n0_ := zA (blk_grown (g := gb46) (o := .cells #[.slice none 0 0, .slice none 0 0, .slice none 0 0, .int .i64 0] 43 (0, 0)) (by (with_reducible repeat (first | refine zL ?_ _ | refine zN ?_ | refine zM ?_ _)); exact BK46.out) hg (Kd.R_ne HO52.out BK46.out (by decide))); have n1_ := zA (Kd.R_after (ok := (fun _ => True)) (by (with_reducible repeat first | apply zQ | apply zR | apply zS); exact yC HO56.out (fun _ hk => ⟨trivial, hk⟩)) hg hat); have n2_ := zA (hb); have n3_ := zA (ho); clear BK46 HO56 HB HO52; have BK46 := n0_; have HO56 := n1_; have HB := n2_; have HO58 := n3_; clear n0_ n1_ n2_ n3_ ho hb hg hat; obtain ⟨Ao13, co13, eo13⟩ := Kd.R_slice HO58.out; (first | subst eo13 | (injection eo13 with f1_ f2_ f3_; have f4_ := f1_.symm; have f5_ := f3_.symm; clear f1_ f2_ f3_; subst f4_; subst f5_)); obtain ⟨Ao14, co14, eo14⟩ := Kd.R_slice HO56.out; (first | subst eo14 | (injection eo14 with f1_ f2_ f3_; have f4_ := f1_.symm; have f5_ := f3_.symm; clear f1_ f2_ f3_; subst f4_; subst f5_)); refine hK.out _ _ ⟨((HB.out.cell (zB w _ hw47_0)).trans hw47_0), ((HB.out.cell (zB w _ hw47_1)).trans hw47_1), ((HB.out.cell (zB w _ hw47_2)).trans hw47_2), ((HB.out.cell (zB w _ hw48_0)).trans hw48_0), ((HB.out.cell (zB w _ hw48_1)).trans hw48_1), ((HB.out.cell (zB w _ hw48_2)).trans hw48_2)⟩ (fun hHeld => ?_); clear hK K; refine norm_ (a' := ?_) ?_ ?_; rotate_left
        ·show Act.put _ (some 17) _ = _
         simp only [Act.put, zC, zD, zE, i64_w]; rfl
        refine pure_ (i := 12) (N := some 18) (v := ?_) (a' := ?_) #[true, true, true, true, true, true, true, true, true, true, true, true, true, false, false] rfl rfl (any_of HT_.out (by kernel_rfl)) (fun _ _ _ h => h) (Or.inl ⟨by rfl, ?_⟩) ?_ ?_; rotate_left
        ·intro w'
         go_simp
         with_reducible rfl
        rotate_left
        ·simp only [Act.put, zC, zD, zE, i64_w]
         rfl
        exact norm_ (by simp only [putAll, Act.put, zC, zD, zE] <;> rfl) (hJ0_5_6_11 (v49, .slice Ao14 y44.length co14, v51, .slice Ao13 y45.length co13) _ ⟨hHeld, (by (with_reducible repeat first | apply zQ | apply zR | apply zS); exact yC HO56.out (fun _ hk => hk.2)), (by (with_reducible repeat first | apply zQ | apply zR | apply zS); exact HO58.out), (by (with_reducible repeat (first | refine zL ?_ _ | refine zN ?_ | refine zM ?_ _)); exact BK46.out), (by repeat (first | (with_reducible first | exact HB.out | apply zH | apply zF | apply zG | refine zI ?_ GE46.out) | exact HB.out))⟩)
       ·skip
        refine box_step ?hg (N := 3) ?hd (cs := #[.slice none 0 0, .slice none 0 0, .slice none 0 0, .int .i64 0]) (t := 43) ?hr ?_; (case hd => rfl); (case hg => rfl); (case hr => first | (go_simp; done) | (go_simp; rfl)); intro gb53 hg w12 hbox hb; have n0_ := zA (Kd.R_below (by (with_reducible repeat first | apply zQ | apply zR | apply zS); exact HO56.out) hb); have n1_ := zA (Kd.R_below (by (with_reducible repeat first | apply zQ | apply zR | apply zS); exact HO52.out) hb); have n2_ := zA (yE (g := gb46) (o := .cells #[.slice none 0 0, .slice none 0 0, .slice none 0 0, .int .i64 0] 43 (0, 0)) (by (with_reducible repeat (first | refine zL ?_ _ | refine zN ?_ | refine zM ?_ _)); exact BK46.out) hb); have n3_ := zA (zAD (by repeat (first | (with_reducible first | exact HB.out | apply zH | apply zF | apply zG | refine zI ?_ GE46.out) | exact HB.out)) hb); have n4_ := zA (hbox); have n5_ := zA ((by rw [hg]; exact (zAE (by repeat (first | (with_reducible first | exact HB.out | apply zH | apply zF | apply zG | refine zI ?_ GE46.out) | exact HB.out))) : w.heap.size ≤ gb53)); have n6_ := zA ((by rw [hg]; exact (zAE (by repeat (first | (with_reducible first | exact HB.out | apply zH | apply zF | apply zG | refine zI ?_ GE46.out) | exact HB.out))) : w.heap.size ≤ gb53)); have n7_ := zA ((by rw [hg]; exact zK (blk_lt (g := gb46) (o := .cells #[.slice none 0 0, .slice none 0 0, .slice none 0 0, .int .i64 0] 43 (0, 0)) (by (with_reducible repeat (first | refine zL ?_ _ | refine zN ?_ | refine zM ?_ _)); exact BK46.out)) : gb46 ≠ gb53)); have n8_ := zA ((by rw [hg]; exact Nat.ne_of_gt (blk_lt (g := gb46) (o := .cells #[.slice none 0 0, .slice none 0 0, .slice none 0 0, .int .i64 0] 43 (0, 0)) (by (with_reducible repeat (first | refine zL ?_ _ | refine zN ?_ | refine zM ?_ _)); exact BK46.out)) : gb53 ≠ gb46)); clear HO56 HO52 BK46 HB; have HO56 := n0_; have HO52 := n1_; have BK46 := n2_; have HB := n3_; have BK53 := n4_; have GW53 := n5_; have GE53 := n6_; have NB46_53 := n7_; have NB53_46 := n8_; clear n0_ n1_ n2_ n3_ n4_ n5_ n6_ n7_ n8_ hb hbox hg; refine hK.out _ _ ⟨((HB.out.cell (zB w _ hw47_0)).trans hw47_0), ((HB.out.cell (zB w _ hw47_1)).trans hw47_1), ((HB.out.cell (zB w _ hw47_2)).trans hw47_2), ((HB.out.cell (zB w _ hw48_0)).trans hw48_0), ((HB.out.cell (zB w _ hw48_1)).trans hw48_1), ((HB.out.cell (zB w _ hw48_2)).trans hw48_2)⟩ (fun hHeld => ?_); clear hK K; refine norm_ (a' := ?_) ?_ ?_; rotate_left
        ·show Act.put _ (some 3) _ = _
         simp only [Act.put, zC, zD, zE, i64_w]; rfl
        exact norm_ (by simp only [putAll, Act.put, zC, zD, zE] <;> rfl) (hJ0_5_6_13 (v49, v55, v51, gb53) _ ⟨hHeld, (by (with_reducible repeat first | apply zQ | apply zR | apply zS); exact HO56.out), (by (with_reducible repeat first | apply zQ | apply zR | apply zS); exact HO52.out), (by (with_reducible repeat (first | refine zL ?_ _ | refine zN ?_ | refine zM ?_ _)); exact BK46.out), (by (with_reducible repeat (first | refine zL ?_ _ | refine zN ?_ | refine zM ?_ _)); exact BK53.out), GW53.out, GE53.out, NB46_53.out, NB53_46.out, (by repeat (first | (with_reducible first | exact HB.out | apply zH | apply zF | apply zG | refine zI ?_ GE46.out | refine zI ?_ GE53.out) | exact HB.out))⟩)
     ·skip
      rintro ⟨v49, v55, v51, gb53⟩ w12 ⟨hS_, h0_, h1_, h2_, h3_, h4_, h5_, h6_, h7_, h8_⟩; have n0_ : Aside0 (Kd.R Kd.string 9 w12 w.heap.size (fun k_ => some k_ ≠ (v51 : Value).ownBlock) v55 y44) := ⟨h0_⟩; have n1_ : Aside0 (Kd.R Kd.string 9 w12 w.heap.size (fun k_ => some k_ ≠ (v55 : Value).ownBlock) v51 y42) := ⟨h1_⟩; have n2_ : Aside0 (w12.heap[gb46]? = some (.cells #[.slice none 0 0, .slice none 0 0, .slice none 0 0, .int .i64 0] 43 (0, 0))) := ⟨h2_⟩; have n3_ : Aside0 (w12.heap[gb53]? = some (.cells #[.slice none 0 0, .slice none 0 0, .slice none 0 0, .int .i64 0] 43 (0, 0))) := ⟨h3_⟩; have n4_ : Aside0 (w.heap.size ≤ gb53) := ⟨h4_⟩; have n5_ : Aside0 (w.heap.size ≤ gb53) := ⟨h5_⟩; have n6_ : Aside0 (gb46 ≠ gb53) := ⟨h6_⟩; have n7_ : Aside0 (gb53 ≠ gb46) := ⟨h7_⟩; have n8_ : Aside0 (Below w.heap.size w w12) := ⟨h8_⟩; clear BK46 HB h0_ h1_ h2_ h3_ h4_ h5_ h6_ h7_ h8_; have HO56 := n0_; have HO52 := n1_; have BK46 := n2_; have BK53 := n3_; have GW53 := n4_; have GE53 := n5_; have NB46_53 := n6_; have NB53_46 := n7_; have HB := n8_; clear n0_ n1_ n2_ n3_ n4_ n5_ n6_ n7_ n8_; have hHeld : w12.cell? ⟨a0.adr, 0, none⟩ = some (.slice An0_0 a0.f0.length cn0_0) ∧ w12.cell? ⟨a0.adr, 1, none⟩ = some (.slice An0_1 a0.f1.length cn0_1) ∧ w12.cell? ⟨a0.adr, 2, none⟩ = some (.slice An0_2 a0.f2.length cn0_2) ∧ w12.cell? ⟨a0.adr, 0, none⟩ = some (.slice An0_0 a0.f0.length cn0_0) ∧ w12.cell? ⟨a0.adr, 1, none⟩ = some (.slice An0_1 a0.f1.length cn0_1) ∧ w12.cell? ⟨a0.adr, 2, none⟩ = some (.slice An0_2 a0.f2.length cn0_2) := hS_; refine norm_ (a' := ?_) ?_ ?_; rotate_left
      ·simp only [putAll, Act.put, zC, zD, zE]
       rfl
      refine one_ (i := 11) (N := some 17) #[true, true, true, true, true, true, true, true, true, true, true, true, false, true, false] rfl rfl (one_of HT_.out (by kernel_rfl)) (by decide) (fun K hK => ?_); refine Kd.R_append_rows_step Kd.string (w0 := w) w.heap.size (by rfl) (.tmp 12) (.tmp 16) 41 9 (.string ⟨#[]⟩) 16 rfl Try.underlying41 info9 rfl (by decide) (by omega) v51 y42 a0.f1 _ _ _ (fun k_ => some k_ ≠ (v55 : Value).ownBlock) (fun _ => False) rfl rfl ?aO ?aR (fun _ _ h => h) (fun _ h => h.elim) ?aF ?aB ?aS ?aL ?_; (case aR => repeat (first | exact (yN HRn0_1.out HB.out) | (with_reducible first | refine zT ?_ _ | refine zU ?_ _ | refine zV ?_))); (case aB => exact (by repeat (first | (with_reducible first | exact HB.out | apply zH | apply zF | apply zG | refine zI ?_ GE46.out | refine zI ?_ GE53.out) | exact HB.out))); (case aF => exact (fun k_ hk => Kd.fresh' (Kd.R_lt (by (with_reducible repeat first | apply zQ | apply zR | apply zS); exact HO56.out)) k_ hk)); (case aO => exact (by (with_reducible repeat first | apply zQ | apply zR | apply zS); exact HO52.out)); (case aS => exact (zAE (by repeat (first | (with_reducible first | exact HB.out | apply zH | apply zF | apply zG | refine zI ?_ GE46.out | refine zI ?_ GE53.out) | exact HB.out)))); (case aL => have := LMc3.out; omega); intro v57 w13 ho hb hg hat; rw [← Ny45.out] at ho; have n0_ := zA (blk_grown (g := gb46) (o := .cells #[.slice none 0 0, .slice none 0 0, .slice none 0 0, .int .i64 0] 43 (0, 0)) (by (with_reducible repeat (first | refine zL ?_ _ | refine zN ?_ | refine zM ?_ _)); exact BK46.out) hg (Kd.R_ne HO52.out BK46.out (by decide))); have n1_ := zA (Kd.R_after (ok := (fun _ => True)) (by (with_reducible repeat first | apply zQ | apply zR | apply zS); exact yC HO56.out (fun _ hk => ⟨trivial, hk⟩)) hg hat); have n2_ := zA (blk_grown (g := gb53) (o := .cells #[.slice none 0 0, .slice none 0 0, .slice none 0 0, .int .i64 0] 43 (0, 0)) (by (with_reducible repeat (first | refine zL ?_ _ | refine zN ?_ | refine zM ?_ _)); exact BK53.out) hg (Kd.R_ne HO52.out BK53.out (by decide))); have n3_ := zA (hb); have n4_ := zA (ho); clear BK46 HO56 BK53 HB HO52; have BK46 := n0_; have HO56 := n1_; have BK53 := n2_; have HB := n3_; have HO58 := n4_; clear n0_ n1_ n2_ n3_ n4_ ho hb hg hat; obtain ⟨Ao14, co14, eo14⟩ := Kd.R_slice HO58.out; (first | subst eo14 | (injection eo14 with f1_ f2_ f3_; have f4_ := f1_.symm; have f5_ := f3_.symm; clear f1_ f2_ f3_; subst f4_; subst f5_)); obtain ⟨Ao15, co15, eo15⟩ := Kd.R_slice HO56.out; (first | subst eo15 | (injection eo15 with f1_ f2_ f3_; have f4_ := f1_.symm; have f5_ := f3_.symm; clear f1_ f2_ f3_; subst f4_; subst f5_)); refine hK.out _ _ ⟨((HB.out.cell (zB w _ hw47_0)).trans hw47_0), ((HB.out.cell (zB w _ hw47_1)).trans hw47_1), ((HB.out.cell (zB w _ hw47_2)).trans hw47_2), ((HB.out.cell (zB w _ hw48_0)).trans hw48_0), ((HB.out.cell (zB w _ hw48_1)).trans hw48_1), ((HB.out.cell (zB w _ hw48_2)).trans hw48_2)⟩ (fun hHeld => ?_); clear hK K; refine norm_ (a' := ?_) ?_ ?_; rotate_left
      ·show Act.put _ (some 17) _ = _
       simp only [Act.put, zC, zD, zE, i64_w]; rfl
      refine pure_ (i := 12) (N := some 18) (v := ?_) (a' := ?_) #[true, true, true, true, true, true, true, true, true, true, true, true, true, true, false] rfl rfl (any_of HT_.out (by kernel_rfl)) (fun _ _ _ h => h) (Or.inl ⟨by rfl, ?_⟩) ?_ ?_; rotate_left
      ·intro w'
       go_simp
       with_reducible rfl
      rotate_left
      ·simp only [Act.put, zC, zD, zE, i64_w]
       rfl
      exact norm_ (by simp only [putAll, Act.put, zC, zD, zE] <;> rfl) (hJ0_5_6_11_13 (v49, .slice Ao15 y44.length co15, v51, .slice Ao14 y45.length co14, gb53) _ ⟨hHeld, (by (with_reducible repeat first | apply zQ | apply zR | apply zS); exact yC HO56.out (fun _ hk => hk.2)), (by (with_reducible repeat first | apply zQ | apply zR | apply zS); exact HO58.out), (by (with_reducible repeat (first | refine zL ?_ _ | refine zN ?_ | refine zM ?_ _)); exact BK46.out), (by (with_reducible repeat (first | refine zL ?_ _ | refine zN ?_ | refine zM ?_ _)); exact BK53.out), GW53.out, GE53.out, NB46_53.out, NB53_46.out, (by repeat (first | (with_reducible first | exact HB.out | apply zH | apply zF | apply zG | refine zI ?_ GE46.out | refine zI ?_ GE53.out) | exact HB.out))⟩)
    ·skip
     rintro ⟨v49, v55, v51, v57⟩ w14 ⟨hS_, h0_, h1_, h2_, h3_⟩; have n0_ : Aside0 (Kd.R Kd.string 9 w14 w.heap.size (fun k_ => some k_ ≠ (v57 : Value).ownBlock) v55 y44) := ⟨h0_⟩; have n1_ : Aside0 (Kd.R Kd.string 9 w14 w.heap.size (fun k_ => some k_ ≠ (v55 : Value).ownBlock) v57 y45) := ⟨h1_⟩; have n2_ : Aside0 (w14.heap[gb46]? = some (.cells #[.slice none 0 0, .slice none 0 0, .slice none 0 0, .int .i64 0] 43 (0, 0))) := ⟨h2_⟩; have n3_ : Aside0 (Below w.heap.size w w14) := ⟨h3_⟩; clear BK46 HB h0_ h1_ h2_ h3_; have HO56 := n0_; have HO58 := n1_; have BK46 := n2_; have HB := n3_; clear n0_ n1_ n2_ n3_; have hHeld : w14.cell? ⟨a0.adr, 0, none⟩ = some (.slice An0_0 a0.f0.length cn0_0) ∧ w14.cell? ⟨a0.adr, 1, none⟩ = some (.slice An0_1 a0.f1.length cn0_1) ∧ w14.cell? ⟨a0.adr, 2, none⟩ = some (.slice An0_2 a0.f2.length cn0_2) ∧ w14.cell? ⟨a0.adr, 0, none⟩ = some (.slice An0_0 a0.f0.length cn0_0) ∧ w14.cell? ⟨a0.adr, 1, none⟩ = some (.slice An0_1 a0.f1.length cn0_1) ∧ w14.cell? ⟨a0.adr, 2, none⟩ = some (.slice An0_2 a0.f2.length cn0_2) := hS_; obtain ⟨Ao15, co15, eo15⟩ := Kd.R_slice HO58.out; (first | subst eo15 | (injection eo15 with f1_ f2_ f3_; have f4_ := f1_.symm; have f5_ := f3_.symm; clear f1_ f2_ f3_; subst f4_; subst f5_)); obtain ⟨Ao16, co16, eo16⟩ := Kd.R_slice HO56.out; (first | subst eo16 | (injection eo16 with f1_ f2_ f3_; have f4_ := f1_.symm; have f5_ := f3_.symm; clear f1_ f2_ f3_; subst f4_; subst f5_)); refine norm_ (a' := ?_) ?_ ?_; rotate_left
     ·simp only [putAll, Act.put, zC, zD, zE]
      rfl
     refine one_ (i := 13) (N := some 3) #[true, true, true, true, true, true, true, true, true, true, true, true, true, true, false] rfl rfl (one_of HT_.out (by kernel_rfl)) (by decide) (fun K hK => ?_); refine box_step ?hg (N := 3) ?hd (cs := #[.slice none 0 0, .slice none 0 0, .slice none 0 0, .int .i64 0]) (t := 43) ?hr ?_; (case hd => rfl); (case hg => rfl); (case hr => first | (go_simp; done) | (go_simp; rfl)); intro gb53 hg w17 hbox hb; have n0_ := zA (Kd.R_below (by (with_reducible repeat first | apply zQ | apply zR | apply zS); exact HO56.out) hb); have n1_ := zA (Kd.R_below (by (with_reducible repeat first | apply zQ | apply zR | apply zS); exact HO58.out) hb); have n2_ := zA (yE (g := gb46) (o := .cells #[.slice none 0 0, .slice none 0 0, .slice none 0 0, .int .i64 0] 43 (0, 0)) (by (with_reducible repeat (first | refine zL ?_ _ | refine zN ?_ | refine zM ?_ _)); exact BK46.out) hb); have n3_ := zA (zAD (by repeat (first | (with_reducible first | exact HB.out | apply zH | apply zF | apply zG | refine zI ?_ GE46.out) | exact HB.out)) hb); have n4_ := zA (hbox); have n5_ := zA ((by rw [hg]; exact (zAE (by repeat (first | (with_reducible first | exact HB.out | apply zH | apply zF | apply zG | refine zI ?_ GE46.out) | exact HB.out))) : w.heap.size ≤ gb53)); have n6_ := zA ((by rw [hg]; exact (zAE (by repeat (first | (with_reducible first | exact HB.out | apply zH | apply zF | apply zG | refine zI ?_ GE46.out) | exact HB.out))) : w.heap.size ≤ gb53)); have n7_ := zA ((by rw [hg]; exact zK (blk_lt (g := gb46) (o := .cells #[.slice none 0 0, .slice none 0 0, .slice none 0 0, .int .i64 0] 43 (0, 0)) (by (with_reducible repeat (first | refine zL ?_ _ | refine zN ?_ | refine zM ?_ _)); exact BK46.out)) : gb46 ≠ gb53)); have n8_ := zA ((by rw [hg]; exact Nat.ne_of_gt (blk_lt (g := gb46) (o := .cells #[.slice none 0 0, .slice none 0 0, .slice none 0 0, .int .i64 0] 43 (0, 0)) (by (with_reducible repeat (first | refine zL ?_ _ | refine zN ?_ | refine zM ?_ _)); exact BK46.out)) : gb53 ≠ gb46)); clear HO56 HO58 BK46 HB; have HO56 := n0_; have HO58 := n1_; have BK46 := n2_; have HB := n3_; have BK53 := n4_; have GW53 := n5_; have GE53 := n6_; have NB46_53 := n7_; have NB53_46 := n8_; clear n0_ n1_ n2_ n3_ n4_ n5_ n6_ n7_ n8_ hb hbox hg; refine hK.out _ _ ⟨((HB.out.cell (zB w _ hw47_0)).trans hw47_0), ((HB.out.cell (zB w _ hw47_1)).trans hw47_1), ((HB.out.cell (zB w _ hw47_2)).trans hw47_2), ((HB.out.cell (zB w _ hw48_0)).trans hw48_0), ((HB.out.cell (zB w _ hw48_1)).trans hw48_1), ((HB.out.cell (zB w _ hw48_2)).trans hw48_2)⟩ (fun hHeld => ?_); clear hK K; refine norm_ (a' := ?_) ?_ ?_; rotate_left
     ·show Act.put _ (some 3) _ = _
      simp only [Act.put, zC, zD, zE, i64_w]; rfl
     exact norm_ (by simp only [putAll, Act.put, zC, zD, zE] <;> rfl) (hJ0_5_6_11_13 (v49, .slice Ao16 y44.length co16, v51, .slice Ao15 y45.length co15, gb53) _ ⟨hHeld, (by (with_reducible repeat first | apply zQ | apply zR | apply zS); exact HO56.out), (by (with_reducible repeat first | apply zQ | apply zR | apply zS); exact HO58.out), (by (with_reducible repeat (first | refine zL ?_ _ | refine zN ?_ | refine zM ?_ _)); exact BK46.out), (by (with_reducible repeat (first | refine zL ?_ _ | refine zN ?_ | refine zM ?_ _)); exact BK53.out), GW53.out, GE53.out, NB46_53.out, NB53_46.out, (by repeat (first | (with_reducible first | exact HB.out | apply zH | apply zF | apply zG | refine zI ?_ GE46.out | refine zI ?_ GE53.out) | exact HB.out))⟩)
   rintro ⟨v49, v55, v51, v57, gb53⟩ w15 ⟨hS_, h0_, h1_, h2_, h3_, h4_, h5_, h6_, h7_, h8_⟩; have n0_ : Aside0 (Kd.R Kd.string 9 w15 w.heap.size (fun k_ => some k_ ≠ (v57 : Value).ownBlock) v55 y44) := ⟨h0_⟩; have n1_ : Aside0 (Kd.R Kd.string 9 w15 w.heap.size (fun k_ => some k_ ≠ (v55 : Value).ownBlock) v57 y45) := ⟨h1_⟩; have n2_ : Aside0 (w15.heap[gb46]? = some (.cells #[.slice none 0 0, .slice none 0 0, .slice none 0 0, .int .i64 0] 43 (0, 0))) := ⟨h2_⟩; have n3_ : Aside0 (w15.heap[gb53]? = some (.cells #[.slice none 0 0, .slice none 0 0, .slice none 0 0, .int .i64 0] 43 (0, 0))) := ⟨h3_⟩; have n4_ : Aside0 (w.heap.size ≤ gb53) := ⟨h4_⟩; have n5_ : Aside0 (w.heap.size ≤ gb53) := ⟨h5_⟩; have n6_ : Aside0 (gb46 ≠ gb53) := ⟨h6_⟩; have n7_ : Aside0 (gb53 ≠ gb46) := ⟨h7_⟩; have n8_ : Aside0 (Below w.heap.size w w15) := ⟨h8_⟩; clear BK46 HB h0_ h1_ h2_ h3_ h4_ h5_ h6_ h7_ h8_; have HO56 := n0_; have HO58 := n1_; have BK46 := n2_; have BK53 := n3_; have GW53 := n4_; have GE53 := n5_; have NB46_53 := n6_; have NB53_46 := n7_; have HB := n8_; clear n0_ n1_ n2_ n3_ n4_ n5_ n6_ n7_ n8_; have hHeld : w15.cell? ⟨a0.adr, 0, none⟩ = some (.slice An0_0 a0.f0.length cn0_0) ∧ w15.cell? ⟨a0.adr, 1, none⟩ = some (.slice An0_1 a0.f1.length cn0_1) ∧ w15.cell? ⟨a0.adr, 2, none⟩ = some (.slice An0_2 a0.f2.length cn0_2) ∧ w15.cell? ⟨a0.adr, 0, none⟩ = some (.slice An0_0 a0.f0.length cn0_0) ∧ w15.cell? ⟨a0.adr, 1, none⟩ = some (.slice An0_1 a0.f1.length cn0_1) ∧ w15.cell? ⟨a0.adr, 2, none⟩ = some (.slice An0_2 a0.f2.length cn0_2) := hS_; obtain ⟨Ao16, co16, eo16⟩ := Kd.R_slice HO58.out; (first | subst eo16 | (injection eo16 with f1_ f2_ f3_; have f4_ := f1_.symm; have f5_ := f3_.symm; clear f1_ f2_ f3_; subst f4_; subst f5_)); obtain ⟨Ao17, co17, eo17⟩ := Kd.R_slice HO56.out; (first | subst eo17 | (injection eo17 with f1_ f2_ f3_; have f4_ := f1_.symm; have f5_ := f3_.symm; clear f1_ f2_ f3_; subst f4_; subst f5_)); refine norm_ (a' := ?_) ?_ ?_; rotate_left
   ·simp only [putAll, Act.put, zC, zD, zE]
    rfl
   refine one_ (i := 14) (N := none) #[true, true, true, true, true, true, true, true, true, true, true, true, true, true, true] rfl rfl (one_of HT_.out (by kernel_rfl)) (by decide) (fun K hK => ?_); have hs18 : w15.cell? ⟨gb53, 0, none⟩ = some (.slice none 0 0) := (zP BK53.out 0).trans rfl; have hfs18 := zO BK53.out 0; have hns18_0 := NB46_53.out; have hms18_0 := NB53_46.out; have hs19 : w15.cell? ⟨gb53, 1, none⟩ = some (.slice none 0 0) := (zP BK53.out 1).trans rfl; have hfs19 := zO BK53.out 1; have hns19_0 := NB46_53.out; have hms19_0 := NB53_46.out; have hs20 : w15.cell? ⟨gb53, 2, none⟩ = some (.slice none 0 0) := (zP BK53.out 2).trans rfl; have hfs20 := zO BK53.out 2; have hns20_0 := NB46_53.out; have hms20_0 := NB53_46.out; have hs21 : w15.cell? ⟨gb53, 3, none⟩ = some (.int .i64 0) := (zP BK53.out 3).trans rfl; have hfs21 := zO BK53.out 3; have hns21_0 := NB46_53.out; have hms21_0 := NB53_46.out; refine skip_ (w1 := ?_) (by rfl) rfl ?_ ?_; rotate_left
   ·go_simp
    rfl
   refine hK.out _ _ ⟨((yF (p := ⟨gb53, _, none⟩) (by first | exact zK (zJ (by have := zB _ _ hw47_0; first | rwa [yA] at this | exact this) GW53.out) | (rw [yA]; exact zK (zJ (by have := zB _ _ hw47_0; first | rwa [yA] at this | exact this) GW53.out)) | (show (Addr.add _ _).block ≠ _; rw [yA]; exact zK (zJ (by have := zB _ _ hw47_0; first | rwa [yA] at this | exact this) GW53.out)) | (dsimp only; exact zK (zJ (by have := zB _ _ hw47_0; first | rwa [yA] at this | exact this) GW53.out))) _).trans (((yF (p := ⟨gb53, _, none⟩) (by first | exact zK (zJ (by have := zB _ _ hw47_0; first | rwa [yA] at this | exact this) GW53.out) | (rw [yA]; exact zK (zJ (by have := zB _ _ hw47_0; first | rwa [yA] at this | exact this) GW53.out)) | (show (Addr.add _ _).block ≠ _; rw [yA]; exact zK (zJ (by have := zB _ _ hw47_0; first | rwa [yA] at this | exact this) GW53.out)) | (dsimp only; exact zK (zJ (by have := zB _ _ hw47_0; first | rwa [yA] at this | exact this) GW53.out))) _).trans (((yF (p := ⟨gb53, _, none⟩) (by first | exact zK (zJ (by have := zB _ _ hw47_0; first | rwa [yA] at this | exact this) GW53.out) | (rw [yA]; exact zK (zJ (by have := zB _ _ hw47_0; first | rwa [yA] at this | exact this) GW53.out)) | (show (Addr.add _ _).block ≠ _; rw [yA]; exact zK (zJ (by have := zB _ _ hw47_0; first | rwa [yA] at this | exact this) GW53.out)) | (dsimp only; exact zK (zJ (by have := zB _ _ hw47_0; first | rwa [yA] at this | exact this) GW53.out))) _).trans (((yF (p := ⟨gb53, _, none⟩) (by first | exact zK (zJ (by have := zB _ _ hw47_0; first | rwa [yA] at this | exact this) GW53.out) | (rw [yA]; exact zK (zJ (by have := zB _ _ hw47_0; first | rwa [yA] at this | exact this) GW53.out)) | (show (Addr.add _ _).block ≠ _; rw [yA]; exact zK (zJ (by have := zB _ _ hw47_0; first | rwa [yA] at this | exact this) GW53.out)) | (dsimp only; exact zK (zJ (by have := zB _ _ hw47_0; first | rwa [yA] at this | exact this) GW53.out))) _).trans (hHeld.1)))))))), ((yF (p := ⟨gb53, _, none⟩) (by first | exact zK (zJ (by have := zB _ _ hw47_1; first | rwa [yA] at this | exact this) GW53.out) | (rw [yA]; exact zK (zJ (by have := zB _ _ hw47_1; first | rwa [yA] at this | exact this) GW53.out)) | (show (Addr.add _ _).block ≠ _; rw [yA]; exact zK (zJ (by have := zB _ _ hw47_1; first | rwa [yA] at this | exact this) GW53.out)) | (dsimp only; exact zK (zJ (by have := zB _ _ hw47_1; first | rwa [yA] at this | exact this) GW53.out))) _).trans (((yF (p := ⟨gb53, _, none⟩) (by first | exact zK (zJ (by have := zB _ _ hw47_1; first | rwa [yA] at this | exact this) GW53.out) | (rw [yA]; exact zK (zJ (by have := zB _ _ hw47_1; first | rwa [yA] at this | exact this) GW53.out)) | (show (Addr.add _ _).block ≠ _; rw [yA]; exact zK (zJ (by have := zB _ _ hw47_1; first | rwa [yA] at this | exact this) GW53.out)) | (dsimp only; exact zK (zJ (by have := zB _ _ hw47_1; first | rwa [yA] at this | exact this) GW53.out))) _).trans (((yF (p := ⟨gb53, _, none⟩) (by first | exact zK (zJ (by have := zB _ _ hw47_1; first | rwa [yA] at this | exact this) GW53.out) | (rw [yA]; exact zK (zJ (by have := zB _ _ hw47_1; first | rwa [yA] at this | exact this) GW53.out)) | (show (Addr.add _ _).block ≠ _; rw [yA]; exact zK (zJ (by have := zB _ _ hw47_1; first | rwa [yA] at this | exact this) GW53.out)) | (dsimp only; exact zK (zJ (by have := zB _ _ hw47_1; first | rwa [yA] at this | exact this) GW53.out))) _).trans (((yF (p := ⟨gb53, _, none⟩) (by first | exact zK (zJ (by have := zB _ _ hw47_1; first | rwa [yA] at this | exact this) GW53.out) | (rw [yA]; exact zK (zJ (by have := zB _ _ hw47_1; first | rwa [yA] at this | exact this) GW53.out)) | (show (Addr.add _ _).block ≠ _; rw [yA]; exact zK (zJ (by have := zB _ _ hw47_1; first | rwa [yA] at this | exact this) GW53.out)) | (dsimp only; exact zK (zJ (by have := zB _ _ hw47_1; first | rwa [yA] at this | exact this) GW53.out))) _).trans (hHeld.2.1)))))))), ((yF (p := ⟨gb53, _, none⟩) (by first | exact zK (zJ (by have := zB _ _ hw47_2; first | rwa [yA] at this | exact this) GW53.out) | (rw [yA]; exact zK (zJ (by have := zB _ _ hw47_2; first | rwa [yA] at this | exact this) GW53.out)) | (show (Addr.add _ _).block ≠ _; rw [yA]; exact zK (zJ (by have := zB _ _ hw47_2; first | rwa [yA] at this | exact this) GW53.out)) | (dsimp only; exact zK (zJ (by have := zB _ _ hw47_2; first | rwa [yA] at this | exact this) GW53.out))) _).trans (((yF (p := ⟨gb53, _, none⟩) (by first | exact zK (zJ (by have := zB _ _ hw47_2; first | rwa [yA] at this | exact this) GW53.out) | (rw [yA]; exact zK (zJ (by have := zB _ _ hw47_2; first | rwa [yA] at this | exact this) GW53.out)) | (show (Addr.add _ _).block ≠ _; rw [yA]; exact zK (zJ (by have := zB _ _ hw47_2; first | rwa [yA] at this | exact this) GW53.out)) | (dsimp only; exact zK (zJ (by have := zB _ _ hw47_2; first | rwa [yA] at this | exact this) GW53.out))) _).trans (((yF (p := ⟨gb53, _, none⟩) (by first | exact zK (zJ (by have := zB _ _ hw47_2; first | rwa [yA] at this | exact this) GW53.out) | (rw [yA]; exact zK (zJ (by have := zB _ _ hw47_2; first | rwa [yA] at this | exact this) GW53.out)) | (show (Addr.add _ _).block ≠ _; rw [yA]; exact zK (zJ (by have := zB _ _ hw47_2; first | rwa [yA] at this | exact this) GW53.out)) | (dsimp only; exact zK (zJ (by have := zB _ _ hw47_2; first | rwa [yA] at this | exact this) GW53.out))) _).trans (((yF (p := ⟨gb53, _, none⟩) (by first | exact zK (zJ (by have := zB _ _ hw47_2; first | rwa [yA] at this | exact this) GW53.out) | (rw [yA]; exact zK (zJ (by have := zB _ _ hw47_2; first | rwa [yA] at this | exact this) GW53.out)) | (show (Addr.add _ _).block ≠ _; rw [yA]; exact zK (zJ (by have := zB _ _ hw47_2; first | rwa [yA] at this | exact this) GW53.out)) | (dsimp only; exact zK (zJ (by have := zB _ _ hw47_2; first | rwa [yA] at this | exact this) GW53.out))) _).trans (hHeld.2.2.1)))))))), ((yF (p := ⟨gb53, _, none⟩) (by first | exact zK (zJ (by have := zB _ _ hw48_0; first | rwa [yA] at this | exact this) GW53.out) | (rw [yA]; exact zK (zJ (by have := zB _ _ hw48_0; first | rwa [yA] at this | exact this) GW53.out)) | (show (Addr.add _ _).block ≠ _; rw [yA]; exact zK (zJ (by have := zB _ _ hw48_0; first | rwa [yA] at this | exact this) GW53.out)) | (dsimp only; exact zK (zJ (by have := zB _ _ hw48_0; first | rwa [yA] at this | exact this) GW53.out))) _).trans (((yF (p := ⟨gb53, _, none⟩) (by first | exact zK (zJ (by have := zB _ _ hw48_0; first | rwa [yA] at this | exact this) GW53.out) | (rw [yA]; exact zK (zJ (by have := zB _ _ hw48_0; first | rwa [yA] at this | exact this) GW53.out)) | (show (Addr.add _ _).block ≠ _; rw [yA]; exact zK (zJ (by have := zB _ _ hw48_0; first | rwa [yA] at this | exact this) GW53.out)) | (dsimp only; exact zK (zJ (by have := zB _ _ hw48_0; first | rwa [yA] at this | exact this) GW53.out))) _).trans (((yF (p := ⟨gb53, _, none⟩) (by first | exact zK (zJ (by have := zB _ _ hw48_0; first | rwa [yA] at this | exact this) GW53.out) | (rw [yA]; exact zK (zJ (by have := zB _ _ hw48_0; first | rwa [yA] at this | exact this) GW53.out)) | (show (Addr.add _ _).block ≠ _; rw [yA]; exact zK (zJ (by have := zB _ _ hw48_0; first | rwa [yA] at this | exact this) GW53.out)) | (dsimp only; exact zK (zJ (by have := zB _ _ hw48_0; first | rwa [yA] at this | exact this) GW53.out))) _).trans (((yF (p := ⟨gb53, _, none⟩) (by first | exact zK (zJ (by have := zB _ _ hw48_0; first | rwa [yA] at this | exact this) GW53.out) | (rw [yA]; exact zK (zJ (by have := zB _ _ hw48_0; first | rwa [yA] at this | exact this) GW53.out)) | (show (Addr.add _ _).block ≠ _; rw [yA]; exact zK (zJ (by have := zB _ _ hw48_0; first | rwa [yA] at this | exact this) GW53.out)) | (dsimp only; exact zK (zJ (by have := zB _ _ hw48_0; first | rwa [yA] at this | exact this) GW53.out))) _).trans (hHeld.2.2.2.1)))))))), ((yF (p := ⟨gb53, _, none⟩) (by first | exact zK (zJ (by have := zB _ _ hw48_1; first | rwa [yA] at this | exact this) GW53.out) | (rw [yA]; exact zK (zJ (by have := zB _ _ hw48_1; first | rwa [yA] at this | exact this) GW53.out)) | (show (Addr.add _ _).block ≠ _; rw [yA]; exact zK (zJ (by have := zB _ _ hw48_1; first | rwa [yA] at this | exact this) GW53.out)) | (dsimp only; exact zK (zJ (by have := zB _ _ hw48_1; first | rwa [yA] at this | exact this) GW53.out))) _).trans (((yF (p := ⟨gb53, _, none⟩) (by first | exact zK (zJ (by have := zB _ _ hw48_1; first | rwa [yA] at this | exact this) GW53.out) | (rw [yA]; exact zK (zJ (by have := zB _ _ hw48_1; first | rwa [yA] at this | exact this) GW53.out)) | (show (Addr.add _ _).block ≠ _; rw [yA]; exact zK (zJ (by have := zB _ _ hw48_1; first | rwa [yA] at this | exact this) GW53.out)) | (dsimp only; exact zK (zJ (by have := zB _ _ hw48_1; first | rwa [yA] at this | exact this) GW53.out))) _).trans (((yF (p := ⟨gb53, _, none⟩) (by first | exact zK (zJ (by have := zB _ _ hw48_1; first | rwa [yA] at this | exact this) GW53.out) | (rw [yA]; exact zK (zJ (by have := zB _ _ hw48_1; first | rwa [yA] at this | exact this) GW53.out)) | (show (Addr.add _ _).block ≠ _; rw [yA]; exact zK (zJ (by have := zB _ _ hw48_1; first | rwa [yA] at this | exact this) GW53.out)) | (dsimp only; exact zK (zJ (by have := zB _ _ hw48_1; first | rwa [yA] at this | exact this) GW53.out))) _).trans (((yF (p := ⟨gb53, _, none⟩) (by first | exact zK (zJ (by have := zB _ _ hw48_1; first | rwa [yA] at this | exact this) GW53.out) | (rw [yA]; exact zK (zJ (by have := zB _ _ hw48_1; first | rwa [yA] at this | exact this) GW53.out)) | (show (Addr.add _ _).block ≠ _; rw [yA]; exact zK (zJ (by have := zB _ _ hw48_1; first | rwa [yA] at this | exact this) GW53.out)) | (dsimp only; exact zK (zJ (by have := zB _ _ hw48_1; first | rwa [yA] at this | exact this) GW53.out))) _).trans (hHeld.2.2.2.2.1)))))))), ((yF (p := ⟨gb53, _, none⟩) (by first | exact zK (zJ (by have := zB _ _ hw48_2; first | rwa [yA] at this | exact this) GW53.out) | (rw [yA]; exact zK (zJ (by have := zB _ _ hw48_2; first | rwa [yA] at this | exact this) GW53.out)) | (show (Addr.add _ _).block ≠ _; rw [yA]; exact zK (zJ (by have := zB _ _ hw48_2; first | rwa [yA] at this | exact this) GW53.out)) | (dsimp only; exact zK (zJ (by have := zB _ _ hw48_2; first | rwa [yA] at this | exact this) GW53.out))) _).trans (((yF (p := ⟨gb53, _, none⟩) (by first | exact zK (zJ (by have := zB _ _ hw48_2; first | rwa [yA] at this | exact this) GW53.out) | (rw [yA]; exact zK (zJ (by have := zB _ _ hw48_2; first | rwa [yA] at this | exact this) GW53.out)) | (show (Addr.add _ _).block ≠ _; rw [yA]; exact zK (zJ (by have := zB _ _ hw48_2; first | rwa [yA] at this | exact this) GW53.out)) | (dsimp only; exact zK (zJ (by have := zB _ _ hw48_2; first | rwa [yA] at this | exact this) GW53.out))) _).trans (((yF (p := ⟨gb53, _, none⟩) (by first | exact zK (zJ (by have := zB _ _ hw48_2; first | rwa [yA] at this | exact this) GW53.out) | (rw [yA]; exact zK (zJ (by have := zB _ _ hw48_2; first | rwa [yA] at this | exact this) GW53.out)) | (show (Addr.add _ _).block ≠ _; rw [yA]; exact zK (zJ (by have := zB _ _ hw48_2; first | rwa [yA] at this | exact this) GW53.out)) | (dsimp only; exact zK (zJ (by have := zB _ _ hw48_2; first | rwa [yA] at this | exact this) GW53.out))) _).trans (((yF (p := ⟨gb53, _, none⟩) (by first | exact zK (zJ (by have := zB _ _ hw48_2; first | rwa [yA] at this | exact this) GW53.out) | (rw [yA]; exact zK (zJ (by have := zB _ _ hw48_2; first | rwa [yA] at this | exact this) GW53.out)) | (show (Addr.add _ _).block ≠ _; rw [yA]; exact zK (zJ (by have := zB _ _ hw48_2; first | rwa [yA] at this | exact this) GW53.out)) | (dsimp only; exact zK (zJ (by have := zB _ _ hw48_2; first | rwa [yA] at this | exact this) GW53.out))) _).trans (hHeld.2.2.2.2.2))))))))⟩ (fun hHeld => ?_)
   clear hK K; refine done_ (done_of HT_.out (by kernel_rfl)) ?_; have hx59_0 := HXn0_0.out; have hx59_1 := HXn0_1.out; have hx59_2 := HXn0_2.out; have hn208_0 : a0.adr ≠ gb53 := zK (zJ (zB _ _ hx59_0) GW53.out); have hn208_1 : a0.adr ≠ gb53 := zK (zJ (zB _ _ hx59_0) GW53.out); have hn208_2 : a0.adr ≠ gb53 := zK (zJ (zB _ _ hx59_0) GW53.out); have hn208_3 : a0.adr ≠ gb53 := zK (zJ (zB _ _ hx59_0) GW53.out); replace hx59_0 := (HB.out.cell (zB w _ hx59_0)).trans hx59_0; replace hx59_1 := (HB.out.cell (zB w _ hx59_1)).trans hx59_1; replace hx59_2 := (HB.out.cell (zB w _ hx59_2)).trans hx59_2; replace hx59_0 := (yF (p := ⟨gb53, 0, none⟩) hn208_0 (.slice Ao17 y44.length co17)).trans hx59_0; replace hx59_1 := (yF (p := ⟨gb53, 0, none⟩) hn208_0 (.slice Ao17 y44.length co17)).trans hx59_1; replace hx59_2 := (yF (p := ⟨gb53, 0, none⟩) hn208_0 (.slice Ao17 y44.length co17)).trans hx59_2; replace hx59_0 := (yF (p := ⟨gb53, 1, none⟩) hn208_1 (.slice Ao16 y45.length co16)).trans hx59_0; replace hx59_1 := (yF (p := ⟨gb53, 1, none⟩) hn208_1 (.slice Ao16 y45.length co16)).trans hx59_1; replace hx59_2 := (yF (p := ⟨gb53, 1, none⟩) hn208_1 (.slice Ao16 y45.length co16)).trans hx59_2; replace hx59_0 := (yF (p := ⟨gb53, 2, none⟩) hn208_2 (.slice none 0 0)).trans hx59_0; replace hx59_1 := (yF (p := ⟨gb53, 2, none⟩) hn208_2 (.slice none 0 0)).trans hx59_1; replace hx59_2 := (yF (p := ⟨gb53, 2, none⟩) hn208_2 (.slice none 0 0)).trans hx59_2; replace hx59_0 := (yF (p := ⟨gb53, 3, none⟩) hn208_3 (.int .i64 0)).trans hx59_0; replace hx59_1 := (yF (p := ⟨gb53, 3, none⟩) hn208_3 (.int .i64 0)).trans hx59_1; replace hx59_2 := (yF (p := ⟨gb53, 3, none⟩) hn208_3 (.int .i64 0)).trans hx59_2; clear hn208_0 hn208_1 hn208_2 hn208_3
   try go_wp2
   go_loopg [24] k (fun kq v24 w' => ∃ (x24_1 : Int) (x60_1 : List ByteArray) (u208002 : Value), v24 = .int .i64 x24_1 ∧ Aside0 (spec_l6Shown.l0 kq a0.f2 (a0.f2.length : Int) x24_1 y44 y45 x60_1 0 = some (r1, r2, r3, r4)) ∧ Aside0 (kq ≤ k) ∧ Aside0 (Kd.R Kd.string 9 w' w.heap.size (fun k_ => some k_ ≠ ((.slice Ao16 y45.length co16) : Value).ownBlock ∧ some k_ ≠ (u208002 : Value).ownBlock) (.slice Ao17 y44.length co17) y44) ∧ Aside0 (Kd.R Kd.string 9 w' w.heap.size (fun k_ => some k_ ≠ ((.slice Ao17 y44.length co17) : Value).ownBlock ∧ some k_ ≠ (u208002 : Value).ownBlock) (.slice Ao16 y45.length co16) y45) ∧ Aside0 (Kd.R Kd.string 9 w' w.heap.size (fun k_ => some k_ ≠ ((.slice Ao17 y44.length co17) : Value).ownBlock ∧ some k_ ≠ ((.slice Ao16 y45.length co16) : Value).ownBlock) u208002 x60_1) ∧ Aside0 (w'.heap[gb46]? = some (.cells #[(.slice none 0 0), (.slice none 0 0), (.slice none 0 0), .int .i64 0] 43 (0, 0))) ∧ Aside0 (w'.heap[gb53]? = some (.cells #[(.slice Ao17 y44.length co17), (.slice Ao16 y45.length co16), u208002, .int .i64 0] 43 (0, 0))) ∧ Aside0 (Below w.heap.size w w'))
   case atStart => exact ⟨(0), (([] : List ByteArray)), (.slice none 0 0), (by first | rfl | (simp; done) | (simp [*]; done) | (simp [bne]; done)), H', ⟨Nat.le_refl _⟩, ⟨by (with_reducible repeat first | apply zQ | apply zR | apply zS); exact yC (Kd.R_far (p := ⟨gb53, 3, none⟩) (Kd.R_far (p := ⟨gb53, 2, none⟩) (Kd.R_far (p := ⟨gb53, 1, none⟩) (Kd.R_far (p := ⟨gb53, 0, none⟩) (Kd.R_types HO56.out BK53.out (by decide)) (fun _ hk => hk.2) (.slice Ao17 y44.length co17)) (fun _ hk => hk.2) (.slice Ao16 y45.length co16)) (fun _ hk => hk.2) (.slice none 0 0)) (fun _ hk => hk.2) (.int .i64 0)) (fun _ hk => ⟨hk.1, (by simp [Value.ownBlock])⟩)⟩, ⟨by (with_reducible repeat first | apply zQ | apply zR | apply zS); exact yC (Kd.R_far (p := ⟨gb53, 3, none⟩) (Kd.R_far (p := ⟨gb53, 2, none⟩) (Kd.R_far (p := ⟨gb53, 1, none⟩) (Kd.R_far (p := ⟨gb53, 0, none⟩) (Kd.R_types HO58.out BK53.out (by decide)) (fun _ hk => hk.2) (.slice Ao17 y44.length co17)) (fun _ hk => hk.2) (.slice Ao16 y45.length co16)) (fun _ hk => hk.2) (.slice none 0 0)) (fun _ hk => hk.2) (.int .i64 0)) (fun _ hk => ⟨hk.1, (by simp [Value.ownBlock])⟩)⟩, ⟨by first | exact Kd.R_nil _ _ _ _ _ | exact Kd.N_nil _ _ _ _ _ | exact Kd.V_nil _ _ _ _ _ | exact Kd.Q_nil _ _ _ _ _ | exact Kd.S_nil _ _ _ _ _⟩, ⟨by (with_reducible repeat (first | refine zL ?_ _ | refine zN ?_ | refine zM ?_ _)); refine blk_far ?_ NB46_53.out _; (with_reducible repeat (first | refine zL ?_ _ | refine zN ?_ | refine zM ?_ _)); refine blk_far ?_ NB46_53.out _; (with_reducible repeat (first | refine zL ?_ _ | refine zN ?_ | refine zM ?_ _)); refine blk_far ?_ NB46_53.out _; (with_reducible repeat (first | refine zL ?_ _ | refine zN ?_ | refine zM ?_ _)); refine blk_far ?_ NB46_53.out _; (with_reducible repeat (first | refine zL ?_ _ | refine zN ?_ | refine zM ?_ _)); exact BK46.out⟩, ⟨by (with_reducible repeat (first | refine zL ?_ _ | refine zN ?_ | refine zM ?_ _)); refine blk_put (cs := #[.slice Ao17 y44.length co17, .slice Ao16 y45.length co16, .slice none 0 0, .int .i64 0]) ?_ 3 _ rfl; (with_reducible repeat (first | refine zL ?_ _ | refine zN ?_ | refine zM ?_ _)); refine blk_put (cs := #[.slice Ao17 y44.length co17, .slice Ao16 y45.length co16, .slice none 0 0, .int .i64 0]) ?_ 2 _ rfl; (with_reducible repeat (first | refine zL ?_ _ | refine zN ?_ | refine zM ?_ _)); refine blk_put (cs := #[.slice Ao17 y44.length co17, .slice none 0 0, .slice none 0 0, .int .i64 0]) ?_ 1 _ rfl; (with_reducible repeat (first | refine zL ?_ _ | refine zN ?_ | refine zM ?_ _)); refine blk_put (cs := #[.slice none 0 0, .slice none 0 0, .slice none 0 0, .int .i64 0]) ?_ 0 _ rfl; (with_reducible repeat (first | refine zL ?_ _ | refine zN ?_ | refine zM ?_ _)); exact BK53.out⟩, ⟨by repeat (first | (with_reducible first | exact HB.out | apply zH | apply zF | apply zG | refine zI ?_ GE46.out | refine zI ?_ GE53.out) | exact HB.out)⟩⟩
   case round =>
    clear H'
    try clear c2
    try clear p2
    try clear hx2
    try clear c3
    try clear hx20
    try clear hx59_0
    try clear hx59_1
    try clear hx59_2
    obtain ⟨x24_1, x60_1, u208002, rfl, HA, HK1, HO_208000, HO_208001, HO_208002, BK46, BK53, HB⟩ := hrel
    cases gk with
    | zero => exact absurd HA.out (by simp [spec_l6Shown.l0])
    | succ k1 =>
     have H := HA.out; clear HA; simp only [spec_l6Shown.l0] at H
     by_cases c22 : x24_1 < (a0.f2.length : Int)
     ·rw [if_pos c22] at H
      have c22b0 : decide (x24_1 < (a0.f2.length : Int)) = true := zX c22; clear c22
      by_cases c23 : 0 ≤ x24_1
      ·rw [if_pos c23] at H
       have c23b0 : decide (0 ≤ x24_1) = true := zX c23; clear c23
       by_cases c24 : x24_1 < (a0.f2.length : Int)
       ·rw [if_pos c24] at H
        have c24b0 : decide (x24_1 < (a0.f2.length : Int)) = true := zX c24; clear c24; replace H := zAF H; obtain ⟨⟨t61, t62, t63, t65⟩, A66, H⟩ := H; replace H : ((spec_l6Digest.f k1 t61 t62 t63 t65).bind fun t67 => (if x60_1.length < 8796093022208 then (spec_l6Shown.l0 k1 a0.f2 (a0.f2.length : Int) (wrap64 (x24_1 + 1)) y44 y45 (x60_1 ++ [t67]) 0) else (none))) = some (r1, r2, r3, r4) := H; have A25 := zA A66; clear A66; replace H := zAF H; obtain ⟨t67, A68, H⟩ := H; replace H : (if x60_1.length < 8796093022208 then (spec_l6Shown.l0 k1 a0.f2 (a0.f2.length : Int) (wrap64 (x24_1 + 1)) y44 y45 (x60_1 ++ [t67]) 0) else (none)) = some (r1, r2, r3, r4) := H; have A26 := zA A68; clear A68
        by_cases c27 : x60_1.length < 8796093022208
        ·rw [if_pos c27] at H
         have LMc27 := zA c27; clear c27; obtain ⟨y69, hy69⟩ : ∃ y_ : List ByteArray, y_ = (x60_1 ++ [t67]) := ⟨_, rfl⟩; replace H : (spec_l6Shown.l0 k1 a0.f2 (a0.f2.length : Int) (wrap64 (x24_1 + 1)) y44 y45 y69 0) = some (r1, r2, r3, r4) := by first | (rw [hy69]; with_reducible exact H) | (have H2_ := (Option.bind_some _ _).symm.trans H; rw [hy69]; with_reducible exact H2_) | (have H2_ := (Option.bind_some _ _).symm.trans H; with_reducible exact H2_) | with_reducible exact H | (rw [hy69]; exact H) | exact H
         have Ny69 := zA hy69; clear hy69; have H' := zA H; clear H; have p70 : 0 ≤ (x24_1 : Int) := zW (by first | (with_reducible assumption) | assumption); have q70 : x24_1 < (a0.f2.length : Int) := zW (by first | (with_reducible assumption) | assumption); obtain ⟨ad70, e70, hx70_0⟩ := at_N95 HRn0_2.out x24_1 p70 q70; have HN70 := zA (nd_el95 HRn0_2.out x24_1 p70 q70); obtain ⟨An209_0, cn209_0, An209_1, cn209_1, An209_2, cn209_2, hsn209_0, hsn209_1, hsn209_2, hln209_0, hin209_0, hln209_1, hin209_1, hln209_2, hin209_2⟩ := at_P95 HN70.out; have HXn209_0 := zA hsn209_0; have HRn209_0 := zA hin209_0; have HCn209_0 := zA hln209_0; have HXn209_1 := zA hsn209_1; have HRn209_1 := zA hin209_1; have HCn209_1 := zA hln209_1; have HXn209_2 := zA hsn209_2; have HRn209_2 := zA hin209_2; have HCn209_2 := zA hln209_2; clear hsn209_0 hin209_0 hln209_0 hsn209_1 hin209_1 hln209_1 hsn209_2 hin209_2 hln209_2
         cases e70
         replace hx70_0 := (HB.out.cell (zB w _ hx70_0)).trans hx70_0; replace p70 := eq_true p70; replace q70 := eq_true q70
         try go_wp2
         have n0_ := zA (zS HO_208000.out); have n1_ := zA (zS HO_208001.out); have n2_ := zA (zS HO_208002.out); have n3_ := zA (zN BK46.out); have n4_ := zA (zN BK53.out); have n5_ := zA (zG HB.out); clear HO_208000 HO_208001 HO_208002 BK46 BK53 HB; have HO_208000 := n0_; have HO_208001 := n1_; have HO_208002 := n2_; have BK46 := n3_; have BK53 := n4_; have HB := n5_; clear n0_ n1_ n2_ n3_ n4_ n5_; refine start_ (n := 9) (S := fun w' => w'.cell? ⟨gb53, 0, none⟩ = some (.slice Ao17 y44.length co17) ∧ w'.cell? ⟨gb53, 1, none⟩ = some (.slice Ao16 y45.length co16) ∧ w'.cell? ⟨gb53, 2, none⟩ = some (u208002) ∧ w'.cell? ⟨gb53, 3, none⟩ = some (.int .i64 0)) (ds := [8]) #[false, false, false, false, false, false, false, false, false] (by kernel_rfl) rfl rfl ⟨(zP BK53.out 0).trans rfl, (zP BK53.out 1).trans rfl, (zP BK53.out 2).trans rfl, (zP BK53.out 3).trans rfl⟩ (fun hHeld => ?_); refine with_tabW spec_l6Shown.tab5 spec_l6Shown.bits5 (fun HT_ HW_ => ?_); generalize wr.drew = w28 at HO_208000 HO_208001 HO_208002 BK46 BK53 HB hHeld ⊢; refine pure_ (i := 0) (N := some 28) (v := ?_) (a' := ?_) #[true, false, false, false, false, false, false, false, false] rfl rfl (any_of HT_.out (by kernel_rfl)) (fun _ _ _ h => h) (Or.inl ⟨by rfl, ?_⟩) ?_ ?_; rotate_left
         ·intro w'
          go_simp
          with_reducible rfl
         rotate_left
         ·simp only [Act.put, zC, zD, zE, i64_w]
          rfl
         refine pure_ (i := 2) (N := some 30) (v := ?_) (a' := ?_) #[true, false, true, false, false, false, false, false, false] rfl rfl (any_of HT_.out (by kernel_rfl)) (fun _ _ _ h => h) (Or.inl ⟨by rfl, ?_⟩) ?_ ?_; rotate_left
         ·intro w'
          go_simp
          with_reducible rfl
         rotate_left
         ·simp only [Act.put, zC, zD, zE, i64_w]
          rfl
         refine take_ (i := 1) (N := some 29) (v := ?_) (a' := ?_) #[true, true, true, false, false, false, false, false, false] rfl rfl (take_ofW HT_.out HW_.out (by kernel_rfl)) (fun _ _ _ h => h) (Or.inl ⟨by rfl, ?_⟩) hHeld ?_ ?_; rotate_left
         ·rintro w' ⟨s0, s1, s2, s3⟩
          go_simp
          with_reducible rfl
         rotate_left
         ·simp only [Act.put, zC, zD, zE, i64_w]
          rfl
         refine one_ (i := 3) (N := some 31) #[true, true, true, true, false, false, false, false, false] rfl rfl (one_of HT_.out (by kernel_rfl)) (by decide) (fun K hK => ?_); refine goes_ Try.func25 (by kernel_rfl) rfl #[.pointer (some ⟨(rd_N95 a0.f2 x24_1).adr, 0, none⟩)] (by rfl) rfl rfl (by (try simp only [zAA, zAB, zAC]); first | done | rfl) ?_
         with_reducible refine (ih k1 (by have := HK1.out; omega) (rd_N95 a0.f2 x24_1) t61 t62 t63 t65 _ ?side1 A25.out).mono ?_
         (case side1 => repeat (first | exact (k95p.K_below HB.out HN70.out) | (with_reducible refine k95p_alloc ?_ _) | (with_reducible refine k95p_drewN ?_ _) | (with_reducible refine k95p_drew ?_))); rintro e w29 ⟨v71, v72, v73, rfl, ho0, ho1, ho2, hb⟩; refine ⟨_, rfl, ?_⟩; have n0_ := zA (yC (Kd.R_told (Kd.R_told (Kd.R_told (Kd.R_old (by (with_reducible repeat first | apply zQ | apply zR | apply zS); exact HO_208000.out) hb) (Kd.R_base ho0)) (Kd.R_base ho1)) (Kd.R_base ho2)) (fun _ h_ => h_.1)); have n1_ := zA (yC (Kd.R_told (Kd.R_told (Kd.R_told (Kd.R_old (by (with_reducible repeat first | apply zQ | apply zR | apply zS); exact HO_208001.out) hb) (Kd.R_base ho0)) (Kd.R_base ho1)) (Kd.R_base ho2)) (fun _ h_ => h_.1)); have n2_ := zA (yC (Kd.R_told (Kd.R_told (Kd.R_told (Kd.R_old (by (with_reducible repeat first | apply zQ | apply zR | apply zS); exact HO_208002.out) hb) (Kd.R_base ho0)) (Kd.R_base ho1)) (Kd.R_base ho2)) (fun _ h_ => h_.1)); have n3_ := zA (Kd.R_lower (yK (yK (yK ho0 (Kd.R_lt (by (with_reducible repeat first | apply zQ | apply zR | apply zS); exact HO_208000.out))) (Kd.R_lt (by (with_reducible repeat first | apply zQ | apply zR | apply zS); exact HO_208001.out))) (Kd.R_lt (by (with_reducible repeat first | apply zQ | apply zR | apply zS); exact HO_208002.out))) (zAE (by repeat (first | (with_reducible first | exact HB.out | apply zH | apply zF | apply zG | refine zI ?_ GE46.out | refine zI ?_ GE53.out) | exact HB.out)))); have n4_ := zA (Kd.R_lower (yK (yK (yK ho1 (Kd.R_lt (by (with_reducible repeat first | apply zQ | apply zR | apply zS); exact HO_208000.out))) (Kd.R_lt (by (with_reducible repeat first | apply zQ | apply zR | apply zS); exact HO_208001.out))) (Kd.R_lt (by (with_reducible repeat first | apply zQ | apply zR | apply zS); exact HO_208002.out))) (zAE (by repeat (first | (with_reducible first | exact HB.out | apply zH | apply zF | apply zG | refine zI ?_ GE46.out | refine zI ?_ GE53.out) | exact HB.out)))); have n5_ := zA (Kd.R_lower (yK (yK (yK ho2 (Kd.R_lt (by (with_reducible repeat first | apply zQ | apply zR | apply zS); exact HO_208000.out))) (Kd.R_lt (by (with_reducible repeat first | apply zQ | apply zR | apply zS); exact HO_208001.out))) (Kd.R_lt (by (with_reducible repeat first | apply zQ | apply zR | apply zS); exact HO_208002.out))) (zAE (by repeat (first | (with_reducible first | exact HB.out | apply zH | apply zF | apply zG | refine zI ?_ GE46.out | refine zI ?_ GE53.out) | exact HB.out)))); have n6_ := zA (yE (g := gb46) (o := .cells #[.slice none 0 0, .slice none 0 0, .slice none 0 0, .int .i64 0] 43 (0, 0)) (by (with_reducible repeat (first | refine zL ?_ _ | refine zN ?_ | refine zM ?_ _)); exact BK46.out) hb); have n7_ := zA (yE (g := gb53) (o := .cells #[.slice Ao17 y44.length co17, .slice Ao16 y45.length co16, u208002, .int .i64 0] 43 (0, 0)) (by (with_reducible repeat (first | refine zL ?_ _ | refine zN ?_ | refine zM ?_ _)); exact BK53.out) hb); have n8_ := zA (zAD (by repeat (first | (with_reducible first | exact HB.out | apply zH | apply zF | apply zG | refine zI ?_ GE46.out | refine zI ?_ GE53.out) | exact HB.out)) hb); clear HO_208000 HO_208001 HO_208002 BK46 BK53 HB; have HO_208000 := n0_; have HO_208001 := n1_; have HO_208002 := n2_; have HO74 := n3_; have HO75 := n4_; have HO76 := n5_; have BK46 := n6_; have BK53 := n7_; have HB := n8_; clear n0_ n1_ n2_ n3_ n4_ n5_ n6_ n7_ n8_; (try clear hb); (try clear ho0); (try clear ho1); (try clear ho2); obtain ⟨Ao30, co30, eo30⟩ := Kd.R_slice HO74.out; (first | subst eo30 | (injection eo30 with f1_ f2_ f3_; have f4_ := f1_.symm; have f5_ := f3_.symm; clear f1_ f2_ f3_; subst f4_; subst f5_)); obtain ⟨Ao31, co31, eo31⟩ := Kd.R_slice HO75.out; (first | subst eo31 | (injection eo31 with f1_ f2_ f3_; have f4_ := f1_.symm; have f5_ := f3_.symm; clear f1_ f2_ f3_; subst f4_; subst f5_)); obtain ⟨Ao32, co32, eo32⟩ := Kd.R_slice HO76.out; (first | subst eo32 | (injection eo32 with f1_ f2_ f3_; have f4_ := f1_.symm; have f5_ := f3_.symm; clear f1_ f2_ f3_; subst f4_; subst f5_)); refine hK.out _ _ ⟨(zP BK53.out 0).trans rfl, (zP BK53.out 1).trans rfl, (zP BK53.out 2).trans rfl, (zP BK53.out 3).trans rfl⟩ (fun hHeld => ?_); clear hK K; refine norm_ (a' := ?_) ?_ ?_; rotate_left
         ·show Act.put _ (some 31) _ = _
          simp only [Act.put, zC, zD, zE, i64_w]; rfl
         refine one_ (i := 4) (N := some 32) #[true, true, true, true, true, false, false, false, false] rfl rfl (one_of HT_.out (by kernel_rfl)) (by decide) (fun K hK => ?_); refine goes_ Try.func24 (by kernel_rfl) rfl #[.agg #[.slice Ao30 t61.length co30, .slice Ao31 t62.length co31, .slice Ao32 t63.length co32, .int .i64 t65]] (by rfl) rfl rfl (by (try simp only [zAA, zAB, zAC]); first | done | rfl | (simp only [zZ, zY]; rfl)) ?_
         with_reducible refine (spec_l6Digest.calls k1 _ _ t61 _ _ t62 _ _ t63 t65 t67 _ ?side1 ?side2 ?side3 ?side4 ?side5 ?side6 A26.out).mono ?_
         (case side1 => repeat (first | exact (yD HO74.out).2.2 | (with_reducible first | refine zT ?_ _ | refine zU ?_ _ | refine zV ?_))); (case side2 => exact (yD HO74.out).2.1); (case side3 => repeat (first | exact (yD HO75.out).2.2 | (with_reducible first | refine zT ?_ _ | refine zU ?_ _ | refine zV ?_))); (case side4 => exact (yD HO75.out).2.1); (case side5 => repeat (first | exact (yD HO76.out).2.2 | (with_reducible first | refine zT ?_ _ | refine zU ?_ _ | refine zV ?_))); (case side6 => exact (yD HO76.out).2.1); rintro e w33 ⟨rfl, hb⟩; refine ⟨_, rfl, ?_⟩; have n0_ := zA (Kd.R_below (by (with_reducible repeat first | apply zQ | apply zR | apply zS); exact HO_208000.out) hb); have n1_ := zA (Kd.R_below (by (with_reducible repeat first | apply zQ | apply zR | apply zS); exact HO_208001.out) hb); have n2_ := zA (Kd.R_below (by (with_reducible repeat first | apply zQ | apply zR | apply zS); exact HO_208002.out) hb); have n3_ := zA (Kd.R_below (by (with_reducible repeat first | apply zQ | apply zR | apply zS); exact HO74.out) hb); have n4_ := zA (Kd.R_below (by (with_reducible repeat first | apply zQ | apply zR | apply zS); exact HO75.out) hb); have n5_ := zA (Kd.R_below (by (with_reducible repeat first | apply zQ | apply zR | apply zS); exact HO76.out) hb); have n6_ := zA (yE (g := gb46) (o := .cells #[.slice none 0 0, .slice none 0 0, .slice none 0 0, .int .i64 0] 43 (0, 0)) (by (with_reducible repeat (first | refine zL ?_ _ | refine zN ?_ | refine zM ?_ _)); exact BK46.out) hb); have n7_ := zA (yE (g := gb53) (o := .cells #[.slice Ao17 y44.length co17, .slice Ao16 y45.length co16, u208002, .int .i64 0] 43 (0, 0)) (by (with_reducible repeat (first | refine zL ?_ _ | refine zN ?_ | refine zM ?_ _)); exact BK53.out) hb); have n8_ := zA (zAD (by repeat (first | (with_reducible first | exact HB.out | apply zH | apply zF | apply zG | refine zI ?_ GE46.out | refine zI ?_ GE53.out) | exact HB.out)) hb); clear HO_208000 HO_208001 HO_208002 HO74 HO75 HO76 BK46 BK53 HB; have HO_208000 := n0_; have HO_208001 := n1_; have HO_208002 := n2_; have HO74 := n3_; have HO75 := n4_; have HO76 := n5_; have BK46 := n6_; have BK53 := n7_; have HB := n8_; clear n0_ n1_ n2_ n3_ n4_ n5_ n6_ n7_ n8_; (try clear hb); refine hK.out _ _ ⟨(zP BK53.out 0).trans rfl, (zP BK53.out 1).trans rfl, (zP BK53.out 2).trans rfl, (zP BK53.out 3).trans rfl⟩ (fun hHeld => ?_); clear hK K; refine norm_ (a' := ?_) ?_ ?_; rotate_left
         ·show Act.put _ (some 32) _ = _
          simp only [Act.put, zC, zD, zE, i64_w]; rfl
         refine one_ (i := 5) (N := some 33) #[true, true, true, true, true, true, false, false, false] rfl rfl (one_of HT_.out (by kernel_rfl)) (by decide) (fun K hK => ?_); refine value_ (w1 := ?_) (v := ?_) (by rfl) rfl ?_ ?_; rotate_left 2
         ·go_simp
          constructor
          ·rfl
          ·rfl
         refine hK.out _ _ ⟨(zP (zM BK53.out _) 0).trans rfl, (zP (zM BK53.out _) 1).trans rfl, (zP (zM BK53.out _) 2).trans rfl, (zP (zM BK53.out _) 3).trans rfl⟩ (fun hHeld => ?_); clear hK K; refine norm_ (a' := ?_) ?_ ?_; rotate_left
         ·show Act.put _ (some 33) _ = _
          simp only [Act.put, zC, zD, zE, i64_w]; rfl
         refine one_ (i := 6) (N := some 34) #[true, true, true, true, true, true, true, false, false] rfl rfl (one_of HT_.out (by kernel_rfl)) (by decide) (fun K hK => ?_); refine Kd.R_append_step Kd.string (w0 := w) w.heap.size (by rfl) (.tmp 29) (.tmp 33) 41 9 (.string ⟨#[]⟩) 16 rfl Try.underlying41 info9 rfl (by decide) (by omega) u208002 x60_1 t67 [.string t67] (fun k_ => some k_ ≠ (.slice Ao17 y44.length co17 : Value).ownBlock ∧ some k_ ≠ (.slice Ao16 y45.length co16 : Value).ownBlock ∧ some k_ ≠ (.slice Ao30 t61.length co30 : Value).ownBlock ∧ some k_ ≠ (.slice Ao31 t62.length co31 : Value).ownBlock ∧ some k_ ≠ (.slice Ao32 t63.length co32 : Value).ownBlock) (fun _ => False) rfl rfl ?aP (fun _ hk => hk.elim) ?aF ?aO ?aB ?aS ?aL ?_; (case aP => exact rfl); (case aB => exact (by repeat (first | (with_reducible first | exact HB.out | apply zH | apply zF | apply zG | refine zI ?_ GE46.out | refine zI ?_ GE53.out) | exact HB.out))); (case aF => exact (fun k_ hk => ⟨Kd.fresh' (Kd.R_lt (by (with_reducible repeat first | apply zQ | apply zR | apply zS); exact HO_208000.out)) k_ hk, Kd.fresh' (Kd.R_lt (by (with_reducible repeat first | apply zQ | apply zR | apply zS); exact HO_208001.out)) k_ hk, Kd.fresh' (Kd.R_lt (by (with_reducible repeat first | apply zQ | apply zR | apply zS); exact HO74.out)) k_ hk, Kd.fresh' (Kd.R_lt (by (with_reducible repeat first | apply zQ | apply zR | apply zS); exact HO75.out)) k_ hk, Kd.fresh' (Kd.R_lt (by (with_reducible repeat first | apply zQ | apply zR | apply zS); exact HO76.out)) k_ hk⟩)); (case aO => exact (by (with_reducible repeat first | apply zQ | apply zR | apply zS); exact yC HO_208002.out (fun _ hk => ⟨hk.1.1.1.1, ⟨hk.1.1.1.2, ⟨hk.1.1.2, ⟨hk.1.2, hk.2⟩⟩⟩⟩))); (case aS => exact (zAE (by repeat (first | (with_reducible first | exact HB.out | apply zH | apply zF | apply zG | refine zI ?_ GE46.out | refine zI ?_ GE53.out) | exact HB.out)))); (case aL => have := LMc27.out; omega); intro v77 w34 ho hb hg hat; rw [← Ny69.out] at ho; have n0_ := zA (Kd.R_after (ok := (fun k_ => some k_ ≠ (.slice Ao16 y45.length co16 : Value).ownBlock ∧ some k_ ≠ (.slice Ao30 t61.length co30 : Value).ownBlock ∧ some k_ ≠ (.slice Ao31 t62.length co31 : Value).ownBlock ∧ some k_ ≠ (.slice Ao32 t63.length co32 : Value).ownBlock)) (by (with_reducible repeat first | apply zQ | apply zR | apply zS); exact yC HO_208000.out (fun _ hk => ⟨⟨hk.1.1.1.1, ⟨hk.1.1.2, ⟨hk.1.2, hk.2⟩⟩⟩, hk.1.1.1.2⟩)) hg hat); have n1_ := zA (Kd.R_after (ok := (fun k_ => some k_ ≠ (.slice Ao17 y44.length co17 : Value).ownBlock ∧ some k_ ≠ (.slice Ao30 t61.length co30 : Value).ownBlock ∧ some k_ ≠ (.slice Ao31 t62.length co31 : Value).ownBlock ∧ some k_ ≠ (.slice Ao32 t63.length co32 : Value).ownBlock)) (by (with_reducible repeat first | apply zQ | apply zR | apply zS); exact yC HO_208001.out (fun _ hk => ⟨⟨hk.1.1.1.1, ⟨hk.1.1.2, ⟨hk.1.2, hk.2⟩⟩⟩, hk.1.1.1.2⟩)) hg hat); have n2_ := zA (blk_grown (g := gb46) (o := .cells #[.slice none 0 0, .slice none 0 0, .slice none 0 0, .int .i64 0] 43 (0, 0)) (by (with_reducible repeat (first | refine zL ?_ _ | refine zN ?_ | refine zM ?_ _)); exact BK46.out) hg (Kd.R_ne HO_208002.out BK46.out (by decide))); have n3_ := zA (blk_grown (g := gb53) (o := .cells #[.slice Ao17 y44.length co17, .slice Ao16 y45.length co16, u208002, .int .i64 0] 43 (0, 0)) (by (with_reducible repeat (first | refine zL ?_ _ | refine zN ?_ | refine zM ?_ _)); exact BK53.out) hg (Kd.R_ne HO_208002.out BK53.out (by decide))); have n4_ := zA (Kd.R_after (ok := (fun k_ => some k_ ≠ (.slice Ao17 y44.length co17 : Value).ownBlock ∧ some k_ ≠ (.slice Ao16 y45.length co16 : Value).ownBlock ∧ some k_ ≠ (.slice Ao31 t62.length co31 : Value).ownBlock ∧ some k_ ≠ (.slice Ao32 t63.length co32 : Value).ownBlock)) (by (with_reducible repeat first | apply zQ | apply zR | apply zS); exact yC HO74.out (fun _ hk => ⟨⟨hk.1.1.2, ⟨hk.1.2, ⟨hk.1.1.1.1, hk.1.1.1.2⟩⟩⟩, hk.2⟩)) hg hat); have n5_ := zA (Kd.R_after (ok := (fun k_ => some k_ ≠ (.slice Ao17 y44.length co17 : Value).ownBlock ∧ some k_ ≠ (.slice Ao16 y45.length co16 : Value).ownBlock ∧ some k_ ≠ (.slice Ao30 t61.length co30 : Value).ownBlock ∧ some k_ ≠ (.slice Ao32 t63.length co32 : Value).ownBlock)) (by (with_reducible repeat first | apply zQ | apply zR | apply zS); exact yC HO75.out (fun _ hk => ⟨⟨hk.1.1.2, ⟨hk.1.2, ⟨hk.1.1.1.1, hk.1.1.1.2⟩⟩⟩, hk.2⟩)) hg hat); have n6_ := zA (Kd.R_after (ok := (fun k_ => some k_ ≠ (.slice Ao17 y44.length co17 : Value).ownBlock ∧ some k_ ≠ (.slice Ao16 y45.length co16 : Value).ownBlock ∧ some k_ ≠ (.slice Ao30 t61.length co30 : Value).ownBlock ∧ some k_ ≠ (.slice Ao31 t62.length co31 : Value).ownBlock)) (by (with_reducible repeat first | apply zQ | apply zR | apply zS); exact yC HO76.out (fun _ hk => ⟨⟨hk.1.1.2, ⟨hk.1.2, ⟨hk.1.1.1.1, hk.1.1.1.2⟩⟩⟩, hk.2⟩)) hg hat); have n7_ := zA (hb); have n8_ := zA (ho); clear HO_208000 HO_208001 BK46 BK53 HO74 HO75 HO76 HB HO_208002; have HO_208000 := n0_; have HO_208001 := n1_; have BK46 := n2_; have BK53 := n3_; have HO74 := n4_; have HO75 := n5_; have HO76 := n6_; have HB := n7_; have HO78 := n8_; clear n0_ n1_ n2_ n3_ n4_ n5_ n6_ n7_ n8_ ho hb hg hat; obtain ⟨Ao35, co35, eo35⟩ := Kd.R_slice HO78.out; (first | subst eo35 | (injection eo35 with f1_ f2_ f3_; have f4_ := f1_.symm; have f5_ := f3_.symm; clear f1_ f2_ f3_; subst f4_; subst f5_)); refine hK.out _ _ ⟨(zP BK53.out 0).trans rfl, (zP BK53.out 1).trans rfl, (zP BK53.out 2).trans rfl, (zP BK53.out 3).trans rfl⟩ (fun hHeld => ?_)
         clear hK K; refine norm_ (a' := ?_) ?_ ?_; rotate_left
         ·show Act.put _ (some 34) _ = _
          simp only [Act.put, zC, zD, zE, i64_w]; rfl
         refine pure_ (i := 7) (N := some 35) (v := ?_) (a' := ?_) #[true, true, true, true, true, true, true, true, false] rfl rfl (any_of HT_.out (by kernel_rfl)) (fun _ _ _ h => h) (Or.inl ⟨by rfl, ?_⟩) ?_ ?_; rotate_left
         ·intro w'
          go_simp
          with_reducible rfl
         rotate_left
         ·simp only [Act.put, zC, zD, zE, i64_w]
          rfl
         refine last_ (i := 8) (N := none) #[true, true, true, true, true, true, true, true, true] rfl rfl (one_of HT_.out (by kernel_rfl)) (by decide) (fun K hK => ?_); have hs36 : w34.cell? ⟨gb53, 2, none⟩ = some (u208002) := (zP BK53.out 2).trans rfl; have hfs36 := zO BK53.out 2; have hns36_0 := NB46_53.out; have hms36_0 := NB53_46.out; refine skip_ (w1 := ?_) (by rfl) rfl ?_ ?_; rotate_left
         ·go_simp
          rfl
         refine hK.out _ _ ?_; clear hK K; refine done_ (done_of HT_.out (by kernel_rfl)) ?_
         try go_wp2
         go_roundg k1
         case measure => have := HK1.out; omega
         case rel => exact ⟨(wrap64 (x24_1 + 1)), (y69), (.slice Ao35 y69.length co35), (by first | rfl | (simp; done) | (simp [*]; done) | (simp [bne]; done)), H', ⟨by have := HK1.out; omega⟩, ⟨by (with_reducible repeat first | apply zQ | apply zR | apply zS); exact yC (Kd.R_far (p := ⟨gb53, 2, none⟩) (Kd.R_types HO_208000.out BK53.out (by decide)) (fun _ hk => hk.2) (.slice Ao35 y69.length co35)) (fun _ hk => ⟨hk.1.1.1, hk.1.2⟩)⟩, ⟨by (with_reducible repeat first | apply zQ | apply zR | apply zS); exact yC (Kd.R_far (p := ⟨gb53, 2, none⟩) (Kd.R_types HO_208001.out BK53.out (by decide)) (fun _ hk => hk.2) (.slice Ao35 y69.length co35)) (fun _ hk => ⟨hk.1.1.1, hk.1.2⟩)⟩, ⟨by (with_reducible repeat first | apply zQ | apply zR | apply zS); exact yC (Kd.R_far (p := ⟨gb53, 2, none⟩) (Kd.R_types HO78.out BK53.out (by decide)) (fun _ hk => hk.2) (.slice Ao35 y69.length co35)) (fun _ hk => ⟨hk.1.1, hk.1.2.1⟩)⟩, ⟨by (with_reducible repeat (first | refine zL ?_ _ | refine zN ?_ | refine zM ?_ _)); refine blk_far ?_ NB46_53.out _; (with_reducible repeat (first | refine zL ?_ _ | refine zN ?_ | refine zM ?_ _)); exact BK46.out⟩, ⟨by (with_reducible repeat (first | refine zL ?_ _ | refine zN ?_ | refine zM ?_ _)); refine blk_put (cs := #[.slice Ao17 y44.length co17, .slice Ao16 y45.length co16, u208002, .int .i64 0]) ?_ 2 _ rfl; (with_reducible repeat (first | refine zL ?_ _ | refine zN ?_ | refine zM ?_ _)); exact BK53.out⟩, ⟨by repeat (first | (with_reducible first | exact HB.out | apply zH | apply zF | apply zG | refine zI ?_ GE46.out | refine zI ?_ GE53.out) | exact HB.out)⟩⟩
        ·rw [if_neg c27] at H
         exact absurd H (by simp)
       ·rw [if_neg c24] at H
        exact absurd H (by simp)
      ·rw [if_neg c23] at H
       exact absurd H (by simp)
     ·rw [if_neg c22] at H
      have c22b0 : decide (x24_1 < (a0.f2.length : Int)) = false := decide_eq_false c22; clear c22; simp only [Option.some.injEq, Prod.mk.injEq] at H; obtain ⟨rfl, rfl, rfl, rfl⟩ := H; have hnb37 := NB53_46.out; have hnc37 := NB46_53.out; have hcz38_0 := yL BK53.out 0 (.slice Ao17 y44.length co17) rfl; have hcz38_1 := yL BK53.out 1 (.slice Ao16 y45.length co16) rfl; have hcz38_2 := yL BK53.out 2 (u208002) rfl; have hcz38_3 := yL BK53.out 3 (.int .i64 0) rfl; have hfz38_0 := zO BK53.out 0; have hfz38_1 := zO BK53.out 1; have hfz38_2 := zO BK53.out 2; have hfz38_3 := zO BK53.out 3; have hcz39_0 := yL BK46.out 0 (.slice none 0 0) rfl; have hcz39_1 := yL BK46.out 1 (.slice none 0 0) rfl; have hcz39_2 := yL BK46.out 2 (.slice none 0 0) rfl; have hcz39_3 := yL BK46.out 3 (.int .i64 0) rfl; have hfz39_0 := zO BK46.out 0; have hfz39_1 := zO BK46.out 1; have hfz39_2 := zO BK46.out 2; have hfz39_3 := zO BK46.out 3; obtain ⟨Ao40, co40, eo40⟩ := Kd.R_slice HO_208002.out; subst eo40; go_wp2; refine bodyPost_ret (results_cell_row rfl _ _ gb46 43 #[.slice Ao17 y44.length co17, .slice Ao16 y45.length co16, .slice Ao40 x60_1.length co40, .int .i64 0] (0, 0) _ rfl (by (with_reducible repeat (first | refine zL ?_ _ | refine zN ?_ | refine zM ?_ _)); refine blk_put (cs := #[.slice Ao17 y44.length co17, .slice Ao16 y45.length co16, .slice Ao40 x60_1.length co40, .int .i64 0]) ?_ 3 _ rfl; (with_reducible repeat (first | refine zL ?_ _ | refine zN ?_ | refine zM ?_ _)); refine blk_put (cs := #[.slice Ao17 y44.length co17, .slice Ao16 y45.length co16, .slice none 0 0, .int .i64 0]) ?_ 2 _ rfl; (with_reducible repeat (first | refine zL ?_ _ | refine zN ?_ | refine zM ?_ _)); refine blk_put (cs := #[.slice Ao17 y44.length co17, .slice none 0 0, .slice none 0 0, .int .i64 0]) ?_ 1 _ rfl; (with_reducible repeat (first | refine zL ?_ _ | refine zN ?_ | refine zM ?_ _)); refine blk_put (cs := #[.slice none 0 0, .slice none 0 0, .slice none 0 0, .int .i64 0]) ?_ 0 _ rfl; (with_reducible repeat (first | refine zL ?_ _ | refine zN ?_ | refine zM ?_ _)); exact BK46.out) Try.underlying43 rfl (by kernel_rfl)) rfl ?_; exact ⟨_, _, _, by first | rfl | (simp <;> rfl) | (simp [*] <;> rfl), by (with_reducible repeat first | apply zQ | apply zR | apply zS); exact yC (Kd.R_far (p := ⟨gb46, 3, none⟩) (Kd.R_far (p := ⟨gb46, 2, none⟩) (Kd.R_far (p := ⟨gb46, 1, none⟩) (Kd.R_far (p := ⟨gb46, 0, none⟩) (Kd.R_types HO_208000.out BK46.out (by decide)) (fun _ hk => hk.2) (.slice Ao17 y44.length co17)) (fun _ hk => hk.2) (.slice Ao16 y45.length co16)) (fun _ hk => hk.2) (.slice Ao40 x60_1.length co40)) (fun _ hk => hk.2) (.int .i64 0)) (fun _ hk => ⟨hk.1.1, hk.1.2⟩), by (with_reducible repeat first | apply zQ | apply zR | apply zS); exact yC (Kd.R_far (p := ⟨gb46, 3, none⟩) (Kd.R_far (p := ⟨gb46, 2, none⟩) (Kd.R_far (p := ⟨gb46, 1, none⟩) (Kd.R_far (p := ⟨gb46, 0, none⟩) (Kd.R_types HO_208001.out BK46.out (by decide)) (fun _ hk => hk.2) (.slice Ao17 y44.length co17)) (fun _ hk => hk.2) (.slice Ao16 y45.length co16)) (fun _ hk => hk.2) (.slice Ao40 x60_1.length co40)) (fun _ hk => hk.2) (.int .i64 0)) (fun _ hk => ⟨hk.1.1, hk.1.2⟩), by (with_reducible repeat first | apply zQ | apply zR | apply zS); exact yC (Kd.R_far (p := ⟨gb46, 3, none⟩) (Kd.R_far (p := ⟨gb46, 2, none⟩) (Kd.R_far (p := ⟨gb46, 1, none⟩) (Kd.R_far (p := ⟨gb46, 0, none⟩) (Kd.R_types HO_208002.out BK46.out (by decide)) (fun _ hk => hk.2) (.slice Ao17 y44.length co17)) (fun _ hk => hk.2) (.slice Ao16 y45.length co16)) (fun _ hk => hk.2) (.slice Ao40 x60_1.length co40)) (fun _ hk => hk.2) (.int .i64 0)) (fun _ hk => ⟨hk.1.1, hk.1.2⟩), by repeat (first | (with_reducible first | exact HB.out | apply zH | apply zF | apply zG | refine zI ?_ GE46.out | refine zI ?_ GE53.out) | exact HB.out)⟩
  ·rw [if_neg c3] at H
   exact absurd H (by simp)
 ·rw [if_neg c2] at H
  exact absurd H (by simp)
end Go.Proofs.Ytnplghcbdaiogaa.PA
end
section
namespace Go.Proofs.Ytnplghcbdaiogaa.QW
open Go.RowKit Go.Proofs.YtnplghcbdaiogaaW.PrintWords Go.Proofs.YtnplghcbdaiogaaW.PrintLast Go.Proofs.YtnplghcbdaiogaaW.PrintMore Go.Proofs.Ytnplghcbdaiogaa.PA
set_option linter.unusedVariables false
structure T where
 f0 : List ByteArray
 f1 : List ByteArray
 f2 : List T
def readK (rd : Nat → Option (T × Nat)) : List Int → Nat → Option (List T × Nat)
 | [], at_ => some ([], at_)
 | k :: ks, at_ => if k = (at_ : Int) then (match rd at_ with
  | none => none
  | some (t, e) => (match readK rd ks e with
   | none => none
   | some (l, e') => some (t :: l, e'))) else none
def okP (p : S97) : Prop := p.f0.length ≤ 4 ∧ p.f1.length = p.f0.length ∧ (p.f2.length = 0 ∨ p.f2.length = p.f0.length + 1)
instance (p : S97) : Decidable (okP p) := by unfold okP; infer_instance
def readF (ps : List S97) : Nat → Nat → Option (T × Nat)
 | 0, _ => none
 | n + 1, at_ => match ps[at_]? with
  | none => none
  | some p => if okP p then (match readK (readF ps n) p.f2 (at_ + 1) with
   | none => none
   | some (l, e) => some (⟨p.f0, p.f1, l⟩, e)) else none
mutual
def er95 : S95 → T
 | ⟨_, K, V, l⟩ => ⟨K, V, erL95 l⟩
def erL95 : List S95 → List T
 | [] => []
 | x :: l => er95 x :: erL95 l
end
theorem erL95_map (l : List S95) : erL95 l = l.map er95 := by
 induction l with
 | nil => rfl
 | cons x l ih => rw [erL95, List.map_cons, ih]
theorem er95_eq (x : S95) : er95 x = ⟨x.f0, x.f1, x.f2.map er95⟩ := by
 obtain ⟨a, K, V, l⟩ := x
 rw [er95, erL95_map]
theorem ind95 {P : S95 → Prop} (h : ∀ x : S95, (∀ k ∈ x.f2, P k) → P x) (x : S95) : P x :=
 S95.rec (motive_1 := P) (motive_2 := fun l => ∀ k ∈ l, P k) (fun a K V l ih => h ⟨a, K, V, l⟩ ih) (fun k hk => absurd hk List.not_mem_nil) (fun x l hx hl k hk => by
  rcases List.mem_cons.1 hk with rfl | hk
  ·exact hx
  ·exact hl k hk) x
mutual
def er74 : S74 → T
 | ⟨_, K, V, l⟩ => ⟨K, V, erL74 l⟩
def erL74 : List S74 → List T
 | [] => []
 | x :: l => er74 x :: erL74 l
end
theorem erL74_map (l : List S74) : erL74 l = l.map er74 := by
 induction l with
 | nil => rfl
 | cons x l ih => rw [erL74, List.map_cons, ih]
theorem er74_eq (x : S74) : er74 x = ⟨x.f0, x.f1, x.f2.map er74⟩ := by
 obtain ⟨a, K, V, l⟩ := x
 rw [er74, erL74_map]
theorem ind74 {P : S74 → Prop} (h : ∀ x : S74, (∀ k ∈ x.f2, P k) → P x) (x : S74) : P x :=
 S74.rec (motive_1 := P) (motive_2 := fun l => ∀ k ∈ l, P k) (fun a K V l ih => h ⟨a, K, V, l⟩ ih) (fun k hk => absurd hk List.not_mem_nil) (fun x l hx hl k hk => by
  rcases List.mem_cons.1 hk with rfl | hk
  ·exact hx
  ·exact hl k hk) x
theorem indT {P : T → Prop} (h : ∀ x : T, (∀ k ∈ x.f2, P k) → P x) (x : T) : P x :=
 T.rec (motive_1 := P) (motive_2 := fun l => ∀ k ∈ l, P k) (fun K V l ih => h ⟨K, V, l⟩ ih) (fun k hk => absurd hk List.not_mem_nil) (fun x l hx hl k hk => by
  rcases List.mem_cons.1 hk with rfl | hk
  ·exact hx
  ·exact hl k hk) x
theorem k95p_mkM {w : World} {base : Nat} {ok : Nat → Prop} {x : S95} {v0 v1 v2 : Value} (h0 : ok x.adr) (hb : base ≤ x.adr) (hg : w.heap[x.adr]? = some (.cells #[v0, v1, v2] 95 (0, 0)))
  (g0 : Kd.string.R 9 w base (fun k => ok k ∧ k ≠ x.adr) v0 x.f0) (g1 : Kd.string.R 9 w base (fun k => ok k ∧ k ≠ x.adr) v1 x.f1) (g2 : k95p.R 54 w base (fun k => ok k ∧ k ≠ x.adr) v2 x.f2) :
  k95p.M w base ok x [.pointer (some ⟨x.adr, 0, none⟩)] := by
 obtain ⟨n, g2⟩ := Kd.fix_R_back mono95 g2
 exact ⟨n + 1, #[v0, v1, v2], rfl, h0, hb, hg, [v0], [v1, v2], rfl, ⟨v0, rfl, g0⟩, [v1], [v2], rfl, ⟨v1, rfl, g1⟩, ⟨v2, rfl, g2⟩⟩
theorem k74p_mkM {w : World} {base : Nat} {ok : Nat → Prop} {x : S74} {v0 v1 v2 : Value} (h0 : ok x.adr) (hb : base ≤ x.adr) (hg : w.heap[x.adr]? = some (.cells #[v0, v1, v2] 74 (0, 0)))
  (g0 : Kd.string.R 9 w base (fun k => ok k ∧ k ≠ x.adr) v0 x.f0) (g1 : Kd.string.R 9 w base (fun k => ok k ∧ k ≠ x.adr) v1 x.f1) (g2 : k74p.R 60 w base (fun k => ok k ∧ k ≠ x.adr) v2 x.f2) :
  k74p.M w base ok x [.pointer (some ⟨x.adr, 0, none⟩)] := by
 obtain ⟨n, g2⟩ := Kd.fix_R_back mono74 g2
 exact ⟨n + 1, #[v0, v1, v2], rfl, h0, hb, hg, [v0], [v1, v2], rfl, ⟨v0, rfl, g0⟩, [v1], [v2], rfl, ⟨v1, rfl, g1⟩, ⟨v2, rfl, g2⟩⟩
theorem R_apart {α β : Type} {d : Kd α} {d' : Kd β} {e e' : Nat} {w : World} {base base' : Nat} {ok ok' : Nat → Prop} {v u : Value} {xs : List α} {ys : List β} (h : d.R e w base ok v xs) (h' : d'.R e' w base' ok' u ys) (ht : ∀ q, q ∈ e :: d.E → q ≠ e') :
  d.R e w base (fun k => ok k ∧ some k ≠ u.ownBlock) v xs :=
 Kd.R_mono (Kd.R_bound h) (fun k hk => ⟨hk.1, fun he => by
  obtain ⟨_, _, _, q, hq, cells', hc⟩ := hk
  obtain ⟨inner, ho⟩ := Kd.R_own h'
  obtain ⟨cells, hc'⟩ := own_typed ho k he.symm
  rw [hc] at hc'
  injection hc' with hc'
  injection hc' with _ hq'
  exact ht q hq hq'⟩)
theorem info54 : (Try.prog.info? 54).map (fun i => (i.zero, i.size, i.bytes)) = some (some (.pointer none), 1, 8) := by kernel_rfl
theorem info60 : (Try.prog.info? 60).map (fun i => (i.zero, i.size, i.bytes)) = some (some (.pointer none), 1, 8) := by kernel_rfl
theorem w64N (i : Nat) (h : i < 4611686018427387904) : Value.int .i64 (wrap64 ((i : Int) + 1)) = Value.int .i64 ((i + 1 : Nat) : Int) := by
 have : wrap64 ((i : Int) + 1) = ((i + 1 : Nat) : Int) := by unfold wrap64; omega
 rw [this]
def Sml (ps : List S97) : Prop := ps.length < 1099511627776 ∧ ∀ p ∈ ps, p.f0.length < 1099511627776 ∧ p.f1.length < 1099511627776 ∧ p.f2.length < 1099511627776
theorem readK_le {rd : Nat → Option (T × Nat)} {m : Nat} (hrd : ∀ a t e, rd a = some (t, e) → a < e ∧ e ≤ m) : ∀ (ks : List Int) (a : Nat) (l : List T) (e : Nat), a ≤ m → readK rd ks a = some (l, e) → a ≤ e ∧ e ≤ m := by
 intro ks
 induction ks with
 | nil =>
  intro a l e ha h
  simp only [readK, Option.some.injEq, Prod.mk.injEq] at h
  omega
 | cons k ks ih =>
  intro a l e ha h
  rw [readK] at h
  by_cases c : k = (a : Int)
  ·rw [if_pos c] at h
   cases hr : rd a with
   | none => rw [hr] at h; cases h
   | some te =>
    obtain ⟨t, e1⟩ := te
    rw [hr] at h
    dsimp only at h
    have h1 := hrd a t e1 hr
    cases hk : readK rd ks e1 with
    | none => rw [hk] at h; cases h
    | some le =>
     obtain ⟨l1, e2⟩ := le
     rw [hk] at h
     dsimp only at h
     have h2 := ih e1 l1 e2 (by omega) hk
     simp only [Option.some.injEq, Prod.mk.injEq] at h
     omega
  ·rw [if_neg c] at h; cases h
theorem readF_le (ps : List S97) : ∀ (n a : Nat) (t : T) (e : Nat), readF ps n a = some (t, e) → a < e ∧ e ≤ ps.length := by
 intro n
 induction n with
 | zero => intro a t e h; cases h
 | succ n ih =>
  intro a t e h
  rw [readF] at h
  cases hp : ps[a]? with
  | none => rw [hp] at h; cases h
  | some p =>
   rw [hp] at h
   dsimp only at h
   have ha : a < ps.length := by
    rcases Nat.lt_or_ge a ps.length with h1 | h1
    ·exact h1
    ·rw [List.getElem?_eq_none h1] at hp; cases hp
   by_cases c : okP p
   ·rw [if_pos c] at h
    cases hk : readK (readF ps n) p.f2 (a + 1) with
    | none => rw [hk] at h; cases h
    | some le =>
     obtain ⟨l, e1⟩ := le
     rw [hk] at h
     dsimp only at h
     have := readK_le ih p.f2 (a + 1) l e1 (by omega) hk
     simp only [Option.some.injEq, Prod.mk.injEq] at h
     omega
   ·rw [if_neg c] at h; cases h
end Go.Proofs.Ytnplghcbdaiogaa.QW
end
section
namespace Go.Proofs.Ytnplghcbdaiogaa.PB
open Go.RowKit Go.Proofs.YtnplghcbdaiogaaW.PrintWords Go.Proofs.YtnplghcbdaiogaaW.PrintLast Go.Proofs.YtnplghcbdaiogaaW.PrintMore
set_option linter.unusedVariables false
theorem ev_pos {α : Type} {c : Prop} [Decidable c] {f g : Nat → Option α} {r : α} (hc : c) (h : Ev f r) : Ev (fun k => if c then f k else g k) r := by
 simp only [if_pos hc]; exact h
theorem ev_neg {α : Type} {c : Prop} [Decidable c] {f g : Nat → Option α} {r : α} (hc : ¬ c) (h : Ev g r) : Ev (fun k => if c then f k else g k) r := by
 simp only [if_neg hc]; exact h
theorem ev_bind {α β : Type} {g : Nat → Option α} {f : Nat → α → Option β} {a : α} {r : β} (h : Ev g a) (k : Ev (fun n => f n a) r) : Ev (fun n => (g n).bind (f n)) r := Ev.bind h k
theorem ev_const {α β : Type} {o : Option α} {f : Nat → α → Option β} {a : α} {r : β} (h : o = some a) (k : Ev (fun n => f n a) r) : Ev (fun n => o.bind (f n)) r := by
 subst h; exact k
theorem ev_eq {α : Type} {f : Nat → Option α} {r r' : α} (h : Ev f r) (e : r = r') : Ev f r' := e ▸ h
theorem w64 {x : Int} (h0 : -9223372036854775808 ≤ x) (h1 : x ≤ 9223372036854775807) : wrap64 x = x := by
 unfold wrap64; omega
theorem size_toList (s : ByteArray) : s.toList.length = s.size := by rw [ByteArray.toList_eq]; exact data_length s
theorem bt_get (s : ByteArray) (i : Nat) (h : i < s.size) : bt s (i : Int) = ((s.toList.getD i 0).toNat : Int) := by
 rw [ByteArray.toList_eq]
 unfold bt
 rw [dif_pos (by simpa using h)]
 have h' : i < s.data.toList.length := by rw [data_length]; exact h
 simp [List.getD_eq_getElem?_getD, List.getElem?_eq_getElem h']
 rfl
end Go.Proofs.Ytnplghcbdaiogaa.PB
end
section
namespace Go.Proofs.Ytnplghcbdaiogaa.PD
open Go.RowKit Go.Proofs.YtnplghcbdaiogaaW.PrintWords Go.Proofs.YtnplghcbdaiogaaW.PrintLast Go.Proofs.YtnplghcbdaiogaaW.PrintMore Go.Proofs.Ytnplghcbdaiogaa.PB Go.Proofs.Ytnplghcbdaiogaa.PA
set_option linter.unusedVariables false
def dstep (p : Int × Int) (c : UInt8) : Int × Int := ((p.1 + (c.toNat : Int)) % 65521, (p.2 + (p.1 + (c.toNat : Int)) % 65521) % 65521)
def dfold (p : Int × Int) (l : List UInt8) : Int × Int := l.foldl dstep p
def InP (p : Int × Int) : Prop := 0 ≤ p.1 ∧ p.1 < 65521 ∧ 0 ≤ p.2 ∧ p.2 < 65521
theorem dstep_in {p : Int × Int} {c : UInt8} : InP (dstep p c) := by
 unfold InP dstep; refine ⟨?_, ?_, ?_, ?_⟩ <;> simp only <;> omega
theorem dfold_in {p : Int × Int} (h : InP p) (l : List UInt8) : InP (dfold p l) := by
 induction l generalizing p with
 | nil => exact h
 | cons c l ih => exact ih dstep_in
def four (p : Int × Int) : ByteArray := strOfNums [p.2 / 256 % 256, p.2 % 256, p.1 / 256 % 256, p.1 % 256]
def dig (kind : Int) (s : ByteArray) : ByteArray := four (dfold (kind + 1, kind + 1) s.toList)
theorem four_size (p : Int × Int) : (four p).size = 4 := by unfold four; rw [strOfNums_size]; rfl
theorem dig_size (kind : Int) (s : ByteArray) : (dig kind s).size = 4 := four_size _
theorem drop_at (l : List UInt8) (i : Nat) (h : i < l.length) : l.drop i = l.getD i 0 :: l.drop (i + 1) := by
 rw [List.drop_eq_getElem_cons h]; simp [List.getD_eq_getElem?_getD, List.getElem?_eq_getElem h]
theorem step_arith {A B : Int} {c : Nat} (hA : 0 ≤ A ∧ A < 65521 ∧ 0 ≤ B ∧ B < 65521) (hc : c < 256) :
  Int.tmod (wrap64 (A + wrap64 (c : Int))) 65521 = (A + (c : Int)) % 65521 ∧ Int.tmod (wrap64 (B + (A + (c : Int)) % 65521)) 65521 = (B + (A + (c : Int)) % 65521) % 65521 := by
 have h1 : wrap64 (c : Int) = c := w64 (by omega) (by omega)
 have h2 : wrap64 (A + c) = A + c := w64 (by omega) (by omega)
 have h3 : wrap64 (B + (A + (c : Int)) % 65521) = B + (A + (c : Int)) % 65521 := w64 (by omega) (by omega)
 rw [h1, h2, h3, Int.tmod_eq_emod_of_nonneg (by omega), Int.tmod_eq_emod_of_nonneg (by omega)]
 exact ⟨rfl, rfl⟩
theorem feed_spec (s : ByteArray) (hs : s.size ≤ 1000000000000) (L : Int) (hL : 0 ≤ L ∧ L ≤ 1000000000000) : ∀ (d i : Nat) (A B : Int), i + d = s.size → InP (A, B) →
  Ev (fun k => spec_l1Feed.l0 k s (i : Int) A B L) ((dfold (A, B) (s.toList.drop i)).1, (dfold (A, B) (s.toList.drop i)).2, L + s.size) := by
 intro d
 induction d with
 | zero =>
  intro i A B hi hp
  refine Ev.step (f := fun _ => some (A, B, wrap64 (L + (s.size : Int)))) (fun k => ?_) ?_
  ·simp only [spec_l1Feed.l0]; rw [if_neg (by omega)]
  ·rw [List.drop_eq_nil_of_le (by rw [size_toList]; omega)]
   rw [w64 (by omega) (by omega)]
   exact Ev.now _
 | succ d ih =>
  intro i A B hi hp
  have hlt : i < s.size := by omega
  have hb := bt_get s i hlt
  have hc : (s.toList.getD i 0).toNat < 256 := UInt8.toNat_lt _
  have ha := step_arith (A := A) (B := B) hp hc
  refine Ev.step (f := fun k => spec_l1Feed.l0 k s ((i + 1 : Nat) : Int) (dstep (A, B) (s.toList.getD i 0)).1 (dstep (A, B) (s.toList.getD i 0)).2 L) (fun k => ?_) ?_
  ·simp only [spec_l1Feed.l0]; rw [if_pos (by omega), if_pos (by omega), hb, ha.1, ha.2, w64 (x := (i : Int) + 1) (by omega) (by omega)]
   simp only [dstep]
   congr 1
  ·rw [drop_at _ _ (by rw [size_toList]; exact hlt)]
   exact ih (i + 1) _ _ (by omega) dstep_in
theorem feed_impl (s : ByteArray) (hs : s.size ≤ 1000000000000) (L : Int) (hL : 0 ≤ L ∧ L ≤ 1000000000000) : ∀ (d i : Nat) (A B : Int), i + d = s.size → InP (A, B) →
  Ev (fun k => impl_Mix_feed.l0 k s (s.size : Int) (i : Int) A B L) ((dfold (A, B) (s.toList.drop i)).1, (dfold (A, B) (s.toList.drop i)).2, L + s.size) := by
 intro d
 induction d with
 | zero =>
  intro i A B hi hp
  refine Ev.step (f := fun _ => some (A, B, wrap64 (L + (s.size : Int)))) (fun k => ?_) ?_
  ·simp only [impl_Mix_feed.l0]; rw [if_neg (by omega)]
  ·rw [List.drop_eq_nil_of_le (by rw [size_toList]; omega)]
   rw [w64 (by omega) (by omega)]
   exact Ev.now _
 | succ d ih =>
  intro i A B hi hp
  have hlt : i < s.size := by omega
  have hb := bt_get s i hlt
  have hc : (s.toList.getD i 0).toNat < 256 := UInt8.toNat_lt _
  have ha := step_arith (A := A) (B := B) hp hc
  refine Ev.step (f := fun k => impl_Mix_feed.l0 k s (s.size : Int) ((i + 1 : Nat) : Int) (dstep (A, B) (s.toList.getD i 0)).1 (dstep (A, B) (s.toList.getD i 0)).2 L) (fun k => ?_) ?_
  ·simp only [impl_Mix_feed.l0]; rw [if_pos (by omega), if_pos (by omega), if_pos (by omega), hb, ha.1, ha.2, w64 (x := (i : Int) + 1) (by omega) (by omega)]
   simp only [dstep]
   congr 1
  ·rw [drop_at _ _ (by rw [size_toList]; exact hlt)]
   exact ih (i + 1) _ _ (by omega) dstep_in
def Kd_ (c : Int) : Prop := 97 ≤ c ∧ c ≤ 122
theorem digS (kind : Int) (hk : Kd_ kind) (s : ByteArray) (hs : s.size ≤ 1000000000000) : Ev (fun k => spec_l1Digest.f k kind s) (dig kind s) := by
 obtain ⟨h0, h1⟩ := hk
 have e1 : spec_NewMix.f kind = some (kind + 1, kind + 1, 0, true) := by
  unfold spec_NewMix.f spec_l1Kind.f
  rw [if_pos (by omega)]
  simp only [Option.bind_some, decide_eq_true h1, if_true]
  rw [w64 (x := kind) (by omega) (by omega), w64 (by omega) (by omega), Int.add_comm]
 have hp : InP (kind + 1, kind + 1) := by unfold InP; refine ⟨?_, ?_, ?_, ?_⟩ <;> simp only <;> omega
 obtain ⟨K, h⟩ := feed_spec s hs 0 (by omega) s.size 0 (kind + 1) (kind + 1) (by omega) hp
 refine ⟨K, fun k hk => ?_⟩
 have h' := h k hk
 dsimp only at h'
 rw [show ((0 : Nat) : Int) = 0 from rfl] at h'
 unfold spec_l1Digest.f spec_l1Feed.f spec_l1End.f
 simp only [e1, Option.bind_some]
 rw [h']
 simp only [Option.bind_some, List.drop_zero]
 rfl
theorem digI (kind : Int) (hk : Kd_ kind) (s : ByteArray) (hs : s.size ≤ 1000000000000) : Ev (fun k => impl_digest.f k kind s) (dig kind s) := by
 obtain ⟨h0, h1⟩ := hk
 have e1 : impl_newMix.f kind = some (kind + 1, kind + 1, 0) := by
  unfold impl_newMix.f
  rw [w64 (x := kind) (by omega) (by omega), w64 (by omega) (by omega)]
 have hp : InP (kind + 1, kind + 1) := by unfold InP; refine ⟨?_, ?_, ?_, ?_⟩ <;> simp only <;> omega
 obtain ⟨K, h⟩ := feed_impl s hs 0 (by omega) s.size 0 (kind + 1) (kind + 1) (by omega) hp
 refine ⟨K, fun k hk => ?_⟩
 have h' := h k hk
 dsimp only at h'
 rw [show ((0 : Nat) : Int) = 0 from rfl] at h'
 have hq := dfold_in hp s.toList
 unfold impl_digest.f impl_Mix_feed.f impl_Mix_end.f
 simp only [e1, Option.bind_some]
 rw [h']
 simp only [Option.bind_some, List.drop_zero]
 unfold dig four
 generalize dfold (kind + 1, kind + 1) s.toList = p at hq ⊢
 obtain ⟨q0, q1, q2, q3⟩ := hq
 rw [Int.tdiv_eq_ediv_of_nonneg q2, Int.tdiv_eq_ediv_of_nonneg q0, Int.tmod_eq_emod_of_nonneg q2, Int.tmod_eq_emod_of_nonneg q0, w64 (x := p.2 / 256) (by omega) (by omega), w64 (x := p.1 / 256) (by omega) (by omega)]
 rw [Int.emod_emod_of_dvd p.2 (Int.dvd_refl _), Int.emod_emod_of_dvd p.1 (Int.dvd_refl _)]
def one (n : Int) : ByteArray := strOfNums [n % 256]
theorem one_size (n : Int) : (one n).size = 1 := by unfold one; rw [strOfNums_size]; rfl
end Go.Proofs.Ytnplghcbdaiogaa.PD
end
section
namespace Go.Proofs.Ytnplghcbdaiogaa.PK
open Go.RowKit Go.Proofs.YtnplghcbdaiogaaW.PrintWords Go.Proofs.YtnplghcbdaiogaaW.PrintLast Go.Proofs.YtnplghcbdaiogaaW.PrintMore Go.Proofs.Ytnplghcbdaiogaa.PB Go.Proofs.Ytnplghcbdaiogaa.PD Go.Proofs.Ytnplghcbdaiogaa.PA
set_option linter.unusedVariables false
theorem app_size (a b : ByteArray) : (a ++ b).size = a.size + b.size := ByteArray.size_append
end Go.Proofs.Ytnplghcbdaiogaa.PK
end
section
namespace Go.Proofs.Ytnplghcbdaiogaa.PL
open Go.RowKit Go.Proofs.YtnplghcbdaiogaaW.PrintWords Go.Proofs.YtnplghcbdaiogaaW.PrintLast Go.Proofs.YtnplghcbdaiogaaW.PrintMore Go.Proofs.Ytnplghcbdaiogaa.PB Go.Proofs.Ytnplghcbdaiogaa.PA
set_option linter.unusedVariables false
theorem rdOf_at {α : Type} (d : α) (l : List α) (i : Nat) (h : i < l.length) : rdOf d l (i : Int) = l[i] := by
 simp [rdOf, List.getD_eq_getElem?_getD, List.getElem?_eq_getElem h]
def filled {α β : Type} (f : α → β) (z : β) (l : List α) (i : Nat) : List β := (l.take i).map f ++ List.replicate (l.length - i) z
theorem filled_length {α β : Type} (f : α → β) (z : β) (l : List α) (i : Nat) (h : i ≤ l.length) : (filled f z l i).length = l.length := by
 simp [filled, Nat.min_eq_left h]; omega
theorem filled_zero {α β : Type} (f : α → β) (z : β) (l : List α) : filled f z l 0 = List.replicate l.length z := by simp [filled]
theorem filled_all {α β : Type} (f : α → β) (z : β) (l : List α) : filled f z l l.length = l.map f := by simp [filled]
theorem filled_set {α β : Type} (f : α → β) (z : β) (l : List α) (i : Nat) (h : i < l.length) : (filled f z l i).set i (f l[i]) = filled f z l (i + 1) := by
 unfold filled
 rw [List.take_succ_eq_append_getElem h, List.map_append, List.map_cons, List.map_nil]
 have hl : ((l.take i).map f).length = i := by simp [Nat.min_eq_left (Nat.le_of_lt h)]
 obtain ⟨m, hm⟩ : ∃ m, l.length - i = m + 1 := ⟨l.length - i - 1, by omega⟩
 rw [hm, List.replicate_succ, List.set_append_right _ _ (by omega), hl, Nat.sub_self, List.set_cons_zero, show l.length - (i + 1) = m by omega]
 simp
theorem toS (l : List ByteArray) (hl : l.length ≤ 2000000) : Ev (fun k => laws_toStringS.f k l) l := by
 have key : ∀ (d i : Nat), i + d = l.length → Ev (fun k => laws_toStringS.l0 k l (filled (fun x => x) ⟨#[]⟩ l i) (i : Int)) l := by
  intro d
  induction d with
  | zero =>
   intro i hi
   have hi' : i = l.length := by omega
   subst hi'
   refine Ev.step (f := fun _ => some l) (fun k => ?_) (Ev.now _)
   simp only [laws_toStringS.l0]
   rw [if_neg (by omega), filled_all]
   simp
  | succ d ih =>
   intro i hi
   have hlt : i < l.length := by omega
   refine Ev.step (f := fun k => laws_toStringS.l0 k l (filled (fun x => x) ⟨#[]⟩ l (i + 1)) ((i + 1 : Nat) : Int)) (fun k => ?_) (ih (i + 1) (by omega))
   simp only [laws_toStringS.l0]
   rw [if_pos (by omega), if_pos (by omega), if_pos (by rw [filled_length _ _ _ _ (by omega)]; omega), rdOf_at _ _ _ hlt, w64 (x := (i : Int) + 1) (by omega) (by omega)]
   rw [show ((i : Int)).toNat = i from by omega, filled_set (fun x => x) _ l i hlt]
   rfl
 refine Ev.congr (f := fun k => laws_toStringS.l0 k l (filled (fun x => x) ⟨#[]⟩ l 0) ((0 : Nat) : Int)) (fun k => ?_) (key l.length 0 (by omega))
 simp only [laws_toStringS.f]
 rw [if_pos (by omega), if_pos (by omega), filled_zero]
 rfl
theorem eqS_yes (l : List ByteArray) (hl : l.length ≤ 2000000) : Ev (fun k => laws_eqStringS.f k l l) true := by
 have key : ∀ (d i : Nat), i + d = l.length → Ev (fun k => laws_eqStringS.l0 k l l (i : Int)) true := by
  intro d
  induction d with
  | zero =>
   intro i hi
   refine Ev.step (f := fun _ => some true) (fun k => ?_) (Ev.now _)
   simp only [laws_eqStringS.l0]
   rw [if_neg (by omega)]
  | succ d ih =>
   intro i hi
   refine Ev.step (f := fun k => laws_eqStringS.l0 k l l ((i + 1 : Nat) : Int)) (fun k => ?_) (ih (i + 1) (by omega))
   simp only [laws_eqStringS.l0]
   rw [if_pos (by omega), if_pos (by omega), if_pos (by omega), if_pos trivial, w64 (x := (i : Int) + 1) (by omega) (by omega)]
   rfl
 refine Ev.congr (f := fun k => laws_eqStringS.l0 k l l ((0 : Nat) : Int)) (fun k => ?_) (key l.length 0 (by omega))
 simp only [laws_eqStringS.f]
 rw [if_pos trivial]
 rfl
def szL : List ByteArray → Nat
 | [] => 0
 | s :: l => s.size + szL l
def total (l : List ByteArray) : Nat := l.length + szL l
def Fit (l : List ByteArray) : Prop := l.length ≤ 9223372036854775807 ∧ ∀ s ∈ l, s.size ≤ 9223372036854775807
theorem szS_loop (l : List ByteArray) (hf : Fit l) : ∀ (d i : Nat) (R : Int), i + d = l.length → 0 ≤ R → R ≤ 1000000000000 → l.length ≤ 1000000000000 →
  Ev (fun k => laws_szStringS.l0 k l R (i : Int)) (if (szL (l.drop i) : Int) ≤ R then R - szL (l.drop i) else -1) := by
 intro d
 induction d with
 | zero =>
  intro i R hi h0 h1 h2
  rw [List.drop_eq_nil_of_le (by omega)]
  refine Ev.step (f := fun _ => some R) (fun k => ?_) ?_
  ·simp only [laws_szStringS.l0]
   rw [if_neg (by omega)]
  ·rw [show szL [] = 0 from rfl, if_pos (by omega)]
   exact ev_eq (Ev.now R) (by omega)
 | succ d ih =>
  intro i R hi h0 h1 h2
  have hlt : i < l.length := by omega
  have hs := hf.2 _ (List.getElem_mem hlt)
  rw [List.drop_eq_getElem_cons hlt, show szL (l[i] :: l.drop (i + 1)) = l[i].size + szL (l.drop (i + 1)) from rfl]
  by_cases hc : (l[i].size : Int) ≤ R
  ·refine Ev.step (f := fun k => laws_szStringS.l0 k l (R - l[i].size) ((i + 1 : Nat) : Int)) (fun k => ?_) ?_
   ·simp only [laws_szStringS.l0]
    rw [if_pos (by omega), if_pos (by omega), rdOf_at _ _ _ hlt, w64 (x := R - (l[i].size : Int)) (by omega) (by omega), if_neg (by omega), w64 (x := (i : Int) + 1) (by omega) (by omega)]
    rfl
   ·refine ev_eq (ih (i + 1) (R - l[i].size) (by omega) (by omega) (by omega) h2) ?_
    by_cases hd : (szL (l.drop (i + 1)) : Int) ≤ R - l[i].size
    ·rw [if_pos hd, if_pos (by omega)]; omega
    ·rw [if_neg hd, if_neg (by omega)]
  ·refine Ev.step (f := fun _ => some (-1)) (fun k => ?_) ?_
   ·simp only [laws_szStringS.l0]
    rw [if_pos (by omega), if_pos (by omega), rdOf_at _ _ _ hlt, w64 (x := R - (l[i].size : Int)) (by omega) (by omega), if_pos (by omega)]
   ·rw [if_neg (by omega)]
    exact Ev.now _
theorem szS (l : List ByteArray) (hf : Fit l) (R : Int) (h0 : 0 ≤ R) (h1 : R ≤ 1000000000) : Ev (fun k => laws_szStringS.f k l R) (if (total l : Int) ≤ R then R - total l else -1) := by
 have hl := hf.1
 by_cases hc : (l.length : Int) ≤ R
 ·refine Ev.congr (f := fun k => laws_szStringS.l0 k l (R - l.length) ((0 : Nat) : Int)) (fun k => ?_) ?_
  ·simp only [laws_szStringS.f]
   rw [w64 (x := R - (l.length : Int)) (by omega) (by omega), if_neg (by omega)]
   rfl
  ·refine ev_eq (szS_loop l hf l.length 0 (R - l.length) (by omega) (by omega) (by omega) (by omega)) ?_
   rw [List.drop_zero]
   unfold total
   by_cases hd : (szL l : Int) ≤ R - l.length
   ·rw [if_pos hd, if_pos (by omega)]; omega
   ·rw [if_neg hd, if_neg (by omega)]
 ·refine Ev.congr (f := fun _ => some (-1)) (fun k => ?_) ?_
  ·simp only [laws_szStringS.f]
   rw [w64 (x := R - (l.length : Int)) (by omega) (by omega), if_pos (by omega)]
  ·unfold total
   rw [if_neg (by omega)]
   exact Ev.now _
end Go.Proofs.Ytnplghcbdaiogaa.PL
end
section
namespace Go.Proofs.Ytnplghcbdaiogaa.PS
open Go.RowKit Go.Proofs.YtnplghcbdaiogaaW.PrintWords Go.Proofs.YtnplghcbdaiogaaW.PrintLast Go.Proofs.YtnplghcbdaiogaaW.PrintMore Go.Proofs.Ytnplghcbdaiogaa.PB Go.Proofs.Ytnplghcbdaiogaa.PD Go.Proofs.Ytnplghcbdaiogaa.PK Go.Proofs.Ytnplghcbdaiogaa.PL Go.Proofs.Ytnplghcbdaiogaa.PA
set_option linter.unusedVariables false
theorem kk : Kd_ 107 := ⟨by decide, by decide⟩
theorem kp : Kd_ 112 := ⟨by decide, by decide⟩
end Go.Proofs.Ytnplghcbdaiogaa.PS
end
section
namespace Go.Proofs.Ytnplghcbdaiogaa.PT
open Go.RowKit Go.Proofs.YtnplghcbdaiogaaW.PrintWords Go.Proofs.YtnplghcbdaiogaaW.PrintLast Go.Proofs.YtnplghcbdaiogaaW.PrintMore Go.Proofs.Ytnplghcbdaiogaa.PB Go.Proofs.Ytnplghcbdaiogaa.PD Go.Proofs.Ytnplghcbdaiogaa.PK Go.Proofs.Ytnplghcbdaiogaa.PL Go.Proofs.Ytnplghcbdaiogaa.PS Go.Proofs.Ytnplghcbdaiogaa.PA
set_option linter.unusedVariables false
theorem inI (a b c : Int) : impl_within.f a b c = some (decide (b ≤ a ∧ a ≤ c)) := by
 unfold impl_within.f
 by_cases h : a ≥ b
 ·rw [if_pos h]; simp [show b ≤ a from h]
 ·rw [if_neg h]; simp [show ¬ b ≤ a from h]
end Go.Proofs.Ytnplghcbdaiogaa.PT
end
section
namespace Go.Proofs.Ytnplghcbdaiogaa.PU
open Go.RowKit Go.Proofs.YtnplghcbdaiogaaW.PrintWords Go.Proofs.YtnplghcbdaiogaaW.PrintLast Go.Proofs.YtnplghcbdaiogaaW.PrintMore Go.Proofs.Ytnplghcbdaiogaa.PB Go.Proofs.Ytnplghcbdaiogaa.PD Go.Proofs.Ytnplghcbdaiogaa.PK Go.Proofs.Ytnplghcbdaiogaa.PL Go.Proofs.Ytnplghcbdaiogaa.PS Go.Proofs.Ytnplghcbdaiogaa.PT Go.Proofs.Ytnplghcbdaiogaa.PA
set_option linter.unusedVariables false
theorem idx_any {α : Type} (l : List α) (rf : List α → Int → α) (hrf : ∀ i (h : i < l.length), rf l (i : Int) = l[i]) (L0 : Nat → List α → Int → Int → Option Int) (cl : Nat → α → Option Bool) (p : α → Bool)
  (hstep : ∀ k n i, L0 (k + 1) l n i = if i < n then (if 0 ≤ i then (if i < (l.length : Int) then ((cl k (rf l i)).bind fun t => if t = true then some i else L0 k l n (wrap64 (i + 1))) else none) else none) else some (-1))
  (hp : ∀ x ∈ l, Ev (fun k => cl k x) (p x)) (hl : l.length ≤ 4000000000000000000) : ∃ r, Ev (fun k => L0 k l (l.length : Int) 0) r ∧ decide (r ≥ 0) = l.any p := by
 have key : ∀ (d i : Nat), i + d = l.length → ∃ r, Ev (fun k => L0 k l (l.length : Int) (i : Int)) r ∧ decide (r ≥ 0) = (l.drop i).any p := by
  intro d
  induction d with
  | zero =>
   intro i hi
   refine ⟨-1, Ev.step (f := fun _ => some (-1)) (fun k => ?_) (Ev.now _), ?_⟩
   ·rw [hstep, if_neg (by omega)]
   ·rw [List.drop_eq_nil_of_le (by omega)]; rfl
  | succ d ih =>
   intro i hi
   have hlt : i < l.length := by omega
   have hpx := hp _ (List.getElem_mem hlt)
   rw [List.drop_eq_getElem_cons hlt, List.any_cons]
   have st : ∀ k, L0 (k + 1) l (l.length : Int) (i : Int) = (cl k l[i]).bind fun t => if t = true then some (i : Int) else L0 k l (l.length : Int) ((i + 1 : Nat) : Int) := by
    intro k
    rw [hstep, if_pos (by omega), if_pos (by omega), if_pos (by omega), hrf i hlt, w64 (x := (i : Int) + 1) (by omega) (by omega)]
    rfl
   cases hb : p l[i] with
   | true =>
    rw [hb] at hpx
    refine ⟨(i : Int), Ev.step (f := fun k => (cl k l[i]).bind fun t => if t = true then some (i : Int) else L0 k l (l.length : Int) ((i + 1 : Nat) : Int)) st (ev_bind hpx (ev_pos rfl (Ev.now _))), ?_⟩
    simp only [Bool.true_or]
    exact decide_eq_true (by omega)
   | false =>
    rw [hb] at hpx
    obtain ⟨r, hr, e⟩ := ih (i + 1) (by omega)
    refine ⟨r, Ev.step (f := fun k => (cl k l[i]).bind fun t => if t = true then some (i : Int) else L0 k l (l.length : Int) ((i + 1 : Nat) : Int)) st (ev_bind hpx (ev_neg (by simp) hr)), ?_⟩
    rw [Bool.false_or]; exact e
 obtain ⟨r, hr, e⟩ := key l.length 0 (by omega)
 exact ⟨r, hr, by rw [e, List.drop_zero]⟩
def all4 (l : List ByteArray) : Bool := l.all fun s => decide (s.size = 4)
end Go.Proofs.Ytnplghcbdaiogaa.PU
end
section
namespace Go.Proofs.Ytnplghcbdaiogaa.PG
open Go.RowKit Go.Proofs.YtnplghcbdaiogaaW.PrintWords Go.Proofs.YtnplghcbdaiogaaW.PrintLast Go.Proofs.YtnplghcbdaiogaaW.PrintMore Go.Proofs.Ytnplghcbdaiogaa.PB Go.Proofs.Ytnplghcbdaiogaa.PL
set_option linter.unusedVariables false
theorem loop_up {β : Type} {r : β} (n : Nat) (S : Nat → Nat → Option β) (hend : Ev (S n) r) (hround : ∀ i, i < n → Ev (S (i + 1)) r → Ev (S i) r) : Ev (S 0) r := by
 have key : ∀ d i, i + d = n → Ev (S i) r := by
  intro d
  induction d with
  | zero => intro i hi; rw [show i = n by omega]; exact hend
  | succ d ih => intro i hi; exact hround i (by omega) (ih (i + 1) (by omega))
 exact key n 0 (by omega)
def wsum {α : Type} (wt : α → Nat) : List α → Nat
 | [] => 0
 | x :: l => wt x + wsum wt l
theorem wsum_mem {α : Type} (wt : α → Nat) (l : List α) : ∀ x ∈ l, wt x ≤ wsum wt l := by
 induction l with
 | nil => intro s h; cases h
 | cons a l ih =>
  intro s h
  simp only [wsum]
  rcases List.mem_cons.mp h with rfl | h
  ·omega
  ·have := ih s h; omega
def left (R : Int) (w : Nat) : Int := if (w : Int) ≤ R then R - w else -1
theorem left_yes {R : Int} {w : Nat} (h : (w : Int) ≤ R) : left R w = R - w := if_pos h
theorem left_no {R : Int} {w : Nat} (h : ¬ (w : Int) ≤ R) : left R w = -1 := if_neg h
theorem left_add {R : Int} {a b : Nat} (h : (a : Int) ≤ R) : left (R - a) b = left R (a + b) := by
 unfold left
 by_cases hb : (b : Int) ≤ R - a
 ·rw [if_pos hb, if_pos (by omega)]; omega
 ·rw [if_neg hb, if_neg (by omega)]
theorem to_list {α β : Type} (f : α → β) (z : β) (l : List α) (L0 : Nat → List α → List β → Int → Option (List β)) (hl : l.length ≤ 2000000)
  (hend : ∀ k out, L0 (k + 1) l out (l.length : Int) = some out)
  (hround : ∀ i (h : i < l.length) (out : List β), out.length = l.length → ∀ r, Ev (fun k => L0 k l (out.set i (f l[i])) ((i + 1 : Nat) : Int)) r → Ev (fun k => L0 k l out (i : Int)) r) :
  Ev (fun k => L0 k l (List.replicate l.length z) 0) (l.map f) := by
 have h := loop_up (r := l.map f) l.length (fun i k => L0 k l (filled f z l i) (i : Int)) ?_ ?_
 ·rw [← filled_zero f z l]; exact h
 ·refine Ev.step (f := fun _ => some (l.map f)) (fun k => ?_) (Ev.now _)
  rw [hend, filled_all]
 ·intro i hi h
  refine hround i hi _ (filled_length _ _ _ _ (by omega)) _ ?_
  rw [filled_set f z l i hi]
  exact h
theorem eq_list {α : Type} (l : List α) (L0 : Nat → List α → List α → Int → Option Bool) (F : Nat → List α → List α → Option Bool) (hend : ∀ k, L0 (k + 1) l l (l.length : Int) = some true)
  (hF : ∀ k, F k l l = L0 k l l 0) (hround : ∀ i (h : i < l.length), Ev (fun k => L0 k l l ((i + 1 : Nat) : Int)) true → Ev (fun k => L0 k l l (i : Int)) true) : Ev (fun k => F k l l) true := by
 refine Ev.congr (f := fun k => L0 k l l ((0 : Nat) : Int)) (fun k => hF k) ?_
 exact loop_up l.length (fun i k => L0 k l l (i : Int)) (Ev.step (f := fun _ => some true) (fun k => hend k) (Ev.now _)) (fun i hi h => hround i hi h)
end Go.Proofs.Ytnplghcbdaiogaa.PG
end
section
namespace Go.Proofs.Ytnplghcbdaiogaa.PQ

end Go.Proofs.Ytnplghcbdaiogaa.PQ
end
section
namespace Go.Proofs.Ytnplghcbdaiogaa.PV

end Go.Proofs.Ytnplghcbdaiogaa.PV
end
section
namespace Go.Proofs.Ytnplghcbdaiogaa.PW
open Go.RowKit Go.Proofs.YtnplghcbdaiogaaW.PrintWords Go.Proofs.YtnplghcbdaiogaaW.PrintLast Go.Proofs.YtnplghcbdaiogaaW.PrintMore Go.Proofs.Ytnplghcbdaiogaa.PB Go.Proofs.Ytnplghcbdaiogaa.PD Go.Proofs.Ytnplghcbdaiogaa.PK Go.Proofs.Ytnplghcbdaiogaa.PL Go.Proofs.Ytnplghcbdaiogaa.PS Go.Proofs.Ytnplghcbdaiogaa.PT Go.Proofs.Ytnplghcbdaiogaa.PU Go.Proofs.Ytnplghcbdaiogaa.PG Go.Proofs.Ytnplghcbdaiogaa.PQ Go.Proofs.Ytnplghcbdaiogaa.PV Go.Proofs.Ytnplghcbdaiogaa.PA
set_option linter.unusedVariables false
noncomputable def ch (P : Prop) : Bool := @decide P (Classical.propDecidable P)
theorem ch_yes {P : Prop} (h : P) : ch P = true := @decide_eq_true P (Classical.propDecidable P) h
theorem ch_no {P : Prop} (h : ¬ P) : ch P = false := @decide_eq_false P (Classical.propDecidable P) h
theorem loop_yes {β : Type} (n : Nat) (S : Nat → Nat → Option β) (Q : Nat → Prop) (b : β) (hround : ∀ r i, i < n → Q i → Ev (S (i + 1)) r → Ev (S i) r) (hend : Ev (S n) b) (hq : ∀ i, i < n → Q i) : Ev (S 0) b :=
 loop_up n S hend (fun i hi h => hround b i hi (hq i hi) h)
theorem loop_no {β : Type} (n : Nat) (S : Nat → Nat → Option β) (Q : Nat → Prop) (no : β) (hround : ∀ r i, i < n → Q i → Ev (S (i + 1)) r → Ev (S i) r) (hno : ∀ i, i < n → ¬ Q i → Ev (S i) no) (hq : ¬ ∀ i, i < n → Q i) : Ev (S 0) no := by
 refine Classical.byContradiction fun hc => hq ?_
 have key : ∀ i, i ≤ n → (¬ Ev (S i) no) ∧ ∀ j, j < i → Q j := by
  intro i
  induction i with
  | zero => intro _; exact ⟨hc, fun j hj => absurd hj (Nat.not_lt_zero j)⟩
  | succ i ih =>
   intro hi
   obtain ⟨h1, h2⟩ := ih (by omega)
   have hQ : Q i := Classical.byContradiction fun h => h1 (hno i (by omega) h)
   refine ⟨fun h => h1 (hround no i (by omega) hQ h), fun j hj => ?_⟩
   by_cases e : j = i
   ·subst e; exact hQ
   ·exact h2 j (by omega)
 exact (key n (Nat.le_refl n)).2
theorem has_str (l : List ByteArray) (L0 : Nat → List ByteArray → Int → Int → Option Int) (cl : Nat → ByteArray → Option Bool) (p : ByteArray → Bool)
  (hstep : ∀ k n i, L0 (k + 1) l n i = if i < n then (if 0 ≤ i then (if i < (l.length : Int) then ((cl k (rdOf ByteArray.empty l i)).bind fun t => if t = true then some i else L0 k l n (wrap64 (i + 1))) else none) else none) else some (-1))
  (hp : ∀ x ∈ l, Ev (fun k => cl k x) (p x)) (hl : l.length ≤ 4000000000000000000) : Ev (fun k => (L0 k l (l.length : Int) 0).bind fun t => some (decide (t ≥ 0))) (l.any p) := by
 obtain ⟨r, hr, e⟩ := idx_any l (fun l i => rdOf ByteArray.empty l i) (fun i h => rdOf_at _ l i h) L0 cl p hstep hp hl
 rw [← e]
 exact ev_bind (f := fun _ t => some (decide (t ≥ 0))) hr (Ev.now _)
theorem not_any {α : Type} (p : α → Bool) : ∀ l : List α, (l.any fun s => !p s) = !(l.all p) := by
 intro l
 induction l with
 | nil => rfl
 | cons x l ih => simp only [List.any_cons, List.all_cons, Bool.not_and, ih]
theorem all_at (l : List ByteArray) (p : ByteArray → Bool) : l.all p = true ↔ ∀ i, i < l.length → p (rdOf ByteArray.empty l (i : Int)) = true := by
 rw [List.all_eq_true]
 constructor
 ·intro h i hi
  rw [rdOf_at _ _ _ hi]
  exact h _ (List.getElem_mem hi)
 ·intro h x hx
  obtain ⟨i, hi, e⟩ := List.getElem_of_mem hx
  have := h i hi
  rw [rdOf_at _ _ _ hi, e] at this
  exact this
def keyB (s : ByteArray) : Bool := decide (1 ≤ (s.size : Int) ∧ (s.size : Int) ≤ 12)
def valB (s : ByteArray) : Bool := decide ((s.size : Int) ≤ 12)
theorem keyI (s : ByteArray) : impl_isKey.f s = some (keyB s) := by
 unfold impl_isKey.f; rw [inI]; rfl
theorem empty_iff (a : ByteArray) : a.toList = ([] : List UInt8) ↔ a.size = 0 := by
 rw [← size_toList]
 constructor
 ·intro h; rw [h]; rfl
 ·intro h; exact List.length_eq_zero_iff.mp h
theorem pairS (a b : ByteArray) : spec_l5Pair.f a b = some (keyB a && valB b) := by
 unfold spec_l5Pair.f spec_l5Text.f keyB valB
 simp only [Option.bind_some]
 by_cases h1 : (a.size : Int) ≤ 12
 ·rw [if_pos (decide_eq_true h1)]
  by_cases h2 : (b.size : Int) ≤ 12
  ·rw [if_pos (decide_eq_true h2), decide_eq_true h2, Bool.and_true]
   by_cases h3 : a.size = 0
   ·rw [(empty_iff a).2 h3, decide_eq_false (by omega)]; rfl
   ·have : a.toList ≠ [] := fun h => h3 ((empty_iff a).1 h)
    rw [decide_eq_true ⟨by omega, h1⟩]
    exact congrArg some (by simp [this])
  ·rw [if_neg (by simp [h2]), decide_eq_false h2, Bool.and_false]
 ·rw [if_neg (by simp [h1]), decide_eq_false (fun h => h1 h.2)]; rfl
abbrev tx (l : List ByteArray) (i : Nat) : ByteArray := rdOf ByteArray.empty l (i : Int)
def risesAt (K : List ByteArray) (i : Nat) : Prop := 0 < i → Op.bytesLess (tx K (i - 1)).toList (tx K i).toList = true
def pageOk (K V C : List ByteArray) (g : Int) : Prop := K.length ≤ 4 ∧ V.length = K.length ∧ (∀ i, i < K.length → keyB (tx K i) = true ∧ risesAt K i) ∧ V.all valB = true ∧ (C.length = 0 ∨ C.length = K.length + 1) ∧ all4 C = true ∧ (0 ≤ g ∧ g ≤ (K.length : Int))
theorem risingI (K : List ByteArray) (hK : K.length ≤ 2000000) : Ev (fun k => impl_areRising.f k K) (ch (∀ i, i < K.length → keyB (tx K i) = true ∧ risesAt K i)) := by
 have round : ∀ (r : Bool) i, i < K.length → (keyB (tx K i) = true ∧ risesAt K i) → Ev (fun k => impl_areRising.l0 k K K (K.length : Int) ((i + 1 : Nat) : Int)) r → Ev (fun k => impl_areRising.l0 k K K (K.length : Int) (i : Int)) r := by
  intro r i hi hq h
  refine Ev.step (f := fun k => impl_areRising.l0 k K K (K.length : Int) ((i + 1 : Nat) : Int)) (fun k => ?_) h
  simp only [impl_areRising.l0]
  rw [if_pos (by omega), if_pos (by omega), if_pos (by omega), keyI, w64 (x := (i : Int) + 1) (by omega) (by omega)]
  simp only [Option.bind_some]
  rw [if_pos hq.1]
  by_cases h0 : 0 < i
  ·rw [if_pos (by omega), w64 (x := (i : Int) - 1) (by omega) (by omega), if_pos (by omega), if_pos (by omega), show (i : Int) - 1 = ((i - 1 : Nat) : Int) by omega, if_pos (hq.2 h0)]; rfl
  ·rw [if_neg (by omega)]; rfl
 have stop : ∀ i, i < K.length → ¬ (keyB (tx K i) = true ∧ risesAt K i) → Ev (fun k => impl_areRising.l0 k K K (K.length : Int) (i : Int)) false := by
  intro i hi hq
  refine Ev.step (f := fun _ => some false) (fun k => ?_) (Ev.now _)
  simp only [impl_areRising.l0]
  rw [if_pos (by omega), if_pos (by omega), if_pos (by omega), keyI]
  simp only [Option.bind_some]
  by_cases hk : keyB (tx K i) = true
  ·rw [if_pos hk]
   have h0 : 0 < i := Classical.byContradiction fun h => hq ⟨hk, fun h' => absurd h' h⟩
   rw [if_pos (by omega), w64 (x := (i : Int) - 1) (by omega) (by omega), if_pos (by omega), if_pos (by omega), show (i : Int) - 1 = ((i - 1 : Nat) : Int) by omega, if_neg (fun h => hq ⟨hk, fun _ => h⟩)]
  ·rw [if_neg hk]
 by_cases h : ∀ i, i < K.length → keyB (tx K i) = true ∧ risesAt K i
 ·rw [ch_yes h]
  exact loop_yes K.length (fun i k => impl_areRising.l0 k K K (K.length : Int) (i : Int)) _ true round (Ev.step (f := fun _ => some true) (fun k => by simp only [impl_areRising.l0]; rw [if_neg (by omega)]) (Ev.now _)) h
 ·rw [ch_no h]
  exact loop_no K.length (fun i k => impl_areRising.l0 k K K (K.length : Int) (i : Int)) _ false round stop h
theorem valsI (V : List ByteArray) (hV : V.length ≤ 2000000) : Ev (fun k => slices_ContainsFunc_impl_arePairs_1.f k V) (!(V.all valB)) := by
 rw [← not_any]
 exact has_str V slices_IndexFunc_impl_arePairs_1.l0 (fun _ s => impl_arePairs_1.f s) (fun s => !valB s) (fun k n i => rfl) (fun x _ => Ev.now _) (by omega)
theorem pairsI (K V : List ByteArray) (hK : K.length ≤ 2000000) (hV : V.length ≤ 2000000) : Ev (fun k => impl_arePairs.f k K V) (ch (K.length ≤ 40 ∧ V.length = K.length ∧ (∀ i, i < K.length → keyB (tx K i) = true ∧ risesAt K i) ∧ V.all valB = true)) := by
 unfold impl_arePairs.f
 by_cases h1 : K.length ≤ 40
 ·refine ev_pos (by omega) ?_
  by_cases h2 : V.length = K.length
  ·refine ev_pos (by omega) (ev_bind (risingI K hK) ?_)
   by_cases h3 : ∀ i, i < K.length → keyB (tx K i) = true ∧ risesAt K i
   ·rw [ch_yes h3]
    refine ev_pos rfl (ev_bind (valsI V hV) (ev_eq (Ev.now _) ?_))
    cases h4 : V.all valB with
    | true => exact (ch_yes ⟨h1, h2, h3, rfl⟩).symm
    | false => rw [ch_no (fun h => by simp at h)]; rfl
   ·rw [ch_no h3]
    exact ev_eq (ev_neg (by simp) (Ev.now _)) (ch_no (fun h => h3 h.2.2.1)).symm
  ·exact ev_eq (ev_neg (by omega) (Ev.now _)) (ch_no (fun h => h2 h.2.1)).symm
 ·exact ev_eq (ev_neg (by omega) (Ev.now _)) (ch_no (fun h => h1 h.1)).symm
theorem bytes_l1 : ∀ k x C n i, impl_Shown_bytes.l1 k x C n i = spec_l6Bytes.l1 k x C n i := by
 intro k
 induction k with
 | zero => intros; rfl
 | succ k ih => intros; simp only [impl_Shown_bytes.l1, spec_l6Bytes.l1, ih]
theorem bytes_l0 : ∀ k x K0 n i K V C g, impl_Shown_bytes.l0 k x K0 n i K V C g = spec_l6Bytes.l0 k x K0 n i K V C g := by
 intro k
 induction k with
 | zero => intros; rfl
 | succ k ih => intros; simp only [impl_Shown_bytes.l0, spec_l6Bytes.l0, ih, bytes_l1, impl_oneByte.f, Option.bind_some]
theorem bytes_eq (k : Nat) (K V C : List ByteArray) (g : Int) : impl_Shown_bytes.f k K V C g = spec_l6Bytes.f k K V C g := by
 unfold impl_Shown_bytes.f spec_l6Bytes.f impl_oneByte.f
 simp only [Option.bind_some]
 exact bytes_l0 _ _ _ _ _ _ _ _ _
theorem bytesS (K V C : List ByteArray) (g : Int) (h : pageOk K V C g) : ∃ r, Ev (fun k => spec_l6Bytes.f k K V C g) r ∧ r.size ≤ 1000 := by
 obtain ⟨h1, h2, h3, h4, h5, h6, _⟩ := h
 have hc : C.length ≤ 5 := by omega
 have kids : ∀ (d i : Nat) (x : ByteArray), i + d = C.length → x.size ≤ 500 + 4 * i → ∃ r, Ev (fun k => spec_l6Bytes.l1 k x C (C.length : Int) (i : Int)) r ∧ r.size ≤ 1000 := by
  intro d
  induction d with
  | zero =>
   intro i x hi hx
   refine ⟨x, Ev.step (f := fun _ => some x) (fun k => ?_) (Ev.now _), by omega⟩
   simp only [spec_l6Bytes.l1]; rw [if_neg (by omega)]
  | succ d ih =>
   intro i x hi hx
   have hs : (rdOf ByteArray.empty C (i : Int)).size = 4 := of_decide_eq_true ((all_at C _).1 h6 i (by omega))
   obtain ⟨r, hr, hz⟩ := ih (i + 1) (x ++ rdOf ByteArray.empty C (i : Int)) (by omega) (by rw [app_size]; omega)
   refine ⟨r, Ev.step (f := fun k => spec_l6Bytes.l1 k (x ++ rdOf ByteArray.empty C (i : Int)) C (C.length : Int) ((i + 1 : Nat) : Int)) (fun k => ?_) hr, hz⟩
   simp only [spec_l6Bytes.l1]
   rw [if_pos (by omega), if_pos (by omega), if_pos (by omega), if_pos (by omega), w64 (x := (i : Int) + 1) (by omega) (by omega)]
   rfl
 have e1 : ∀ n : Int, (strOfNums [n % 256]).size = 1 := fun n => by rw [strOfNums_size]; rfl
 have pairs : ∀ (d i : Nat) (x : ByteArray), i + d = K.length → x.size ≤ 1 + 40 * i → ∃ r, Ev (fun k => spec_l6Bytes.l0 k x K (K.length : Int) (i : Int) K V C g) r ∧ r.size ≤ 1000 := by
  intro d
  induction d with
  | zero =>
   intro i x hi hx
   obtain ⟨r, hr, hz⟩ := kids C.length 0 (x ++ strOfNums [(C.length : Int) % 256]) (by omega) (by rw [app_size, e1]; omega)
   refine ⟨r, Ev.step (f := fun k => spec_l6Bytes.l1 k (x ++ strOfNums [(C.length : Int) % 256]) C (C.length : Int) ((0 : Nat) : Int)) (fun k => ?_) hr, hz⟩
   simp only [spec_l6Bytes.l0, Option.bind_some]
   rw [if_neg (by omega), if_pos (by rw [e1]; omega)]
   rfl
  | succ d ih =>
   intro i x hi hx
   have ks := of_decide_eq_true (h3 i (by omega)).1
   have vs := of_decide_eq_true ((all_at V _).1 h4 i (by omega))
   have ks' : (rdOf ByteArray.empty K (i : Int)).size ≤ 12 := by
    have : ((rdOf ByteArray.empty K (i : Int)).size : Int) ≤ 12 := ks.2
    omega
   have vs' : (rdOf ByteArray.empty V (i : Int)).size ≤ 12 := by omega
   obtain ⟨r, hr, hz⟩ := ih (i + 1) (x ++ (strOfNums [((rdOf ByteArray.empty K (i : Int)).size : Int) % 256] ++ rdOf ByteArray.empty K (i : Int) ++ strOfNums [((rdOf ByteArray.empty V (i : Int)).size : Int) % 256] ++ rdOf ByteArray.empty V (i : Int))) (by omega) (by simp only [app_size, e1]; omega)
   refine ⟨r, Ev.step (f := fun k => spec_l6Bytes.l0 k (x ++ (strOfNums [((rdOf ByteArray.empty K (i : Int)).size : Int) % 256] ++ rdOf ByteArray.empty K (i : Int) ++ strOfNums [((rdOf ByteArray.empty V (i : Int)).size : Int) % 256] ++ rdOf ByteArray.empty V (i : Int))) K (K.length : Int) ((i + 1 : Nat) : Int) K V C g) (fun k => ?_) hr, hz⟩
   simp only [spec_l6Bytes.l0, Option.bind_some]
   rw [if_pos (by omega), if_pos (by omega), if_pos (by omega), if_pos (by rw [e1]; omega), if_pos (by omega), if_pos (by simp only [app_size, e1]; omega), if_pos (by simp only [app_size, e1]; omega), if_pos (by simp only [app_size, e1]; omega), w64 (x := (i : Int) + 1) (by omega) (by omega)]
   rfl
 obtain ⟨r, hr, hz⟩ := pairs K.length 0 (strOfNums [(K.length : Int) % 256]) (by omega) (by rw [e1]; omega)
 exact ⟨r, hr, hz⟩
theorem k103 : Kd_ 103 := ⟨by decide, by decide⟩
end Go.Proofs.Ytnplghcbdaiogaa.PW
end
section
namespace Go.Proofs.Ytnplghcbdaiogaa.QP
open Go.RowKit Go.Proofs.YtnplghcbdaiogaaW.PrintWords Go.Proofs.YtnplghcbdaiogaaW.PrintLast Go.Proofs.YtnplghcbdaiogaaW.PrintMore Go.Proofs.Ytnplghcbdaiogaa.PB Go.Proofs.Ytnplghcbdaiogaa.PD Go.Proofs.Ytnplghcbdaiogaa.PK Go.Proofs.Ytnplghcbdaiogaa.PL Go.Proofs.Ytnplghcbdaiogaa.PT Go.Proofs.Ytnplghcbdaiogaa.PU Go.Proofs.Ytnplghcbdaiogaa.PG Go.Proofs.Ytnplghcbdaiogaa.PW Go.Proofs.Ytnplghcbdaiogaa.QW Go.Proofs.Ytnplghcbdaiogaa.PA
set_option linter.unusedVariables false
mutual
def keysT : T → List ByteArray
 | ⟨K, _, l⟩ => wvK l K
def wvK : List T → List ByteArray → List ByteArray
 | [], K => K
 | t :: l, [] => keysT t ++ wvK l []
 | t :: l, k :: K => keysT t ++ k :: wvK l K
end
mutual
def valsT : T → List ByteArray
 | ⟨_, V, l⟩ => wvV l V
def wvV : List T → List ByteArray → List ByteArray
 | [], V => V
 | t :: l, [] => valsT t ++ wvV l []
 | t :: l, k :: V => valsT t ++ k :: wvV l V
end
mutual
def levT : T → Option Nat
 | ⟨_, _, l⟩ => levH l
def levH : List T → Option Nat
 | [] => some 1
 | t :: l => match levT t with
  | none => none
  | some d => if (decide (2 ≤ t.f0.length) && levL d l) = true then some (d + 1) else none
def levL : Nat → List T → Bool
 | _, [] => true
 | d, t :: l => decide (levT t = some d) && (decide (2 ≤ t.f0.length) && levL d l)
end
mutual
def hT : T → Nat
 | ⟨_, _, l⟩ => hL l + 1
def hL : List T → Nat
 | [] => 0
 | t :: l => max (hT t) (hL l)
end
def pairsP : ByteArray → List ByteArray → List ByteArray → ByteArray
 | s, k :: K, v :: V => pairsP (s ++ (((one k.size ++ k) ++ one v.size) ++ v)) K V
 | s, _, _ => s
def kidsP : ByteArray → List ByteArray → ByteArray
 | s, [] => s
 | s, d :: C => kidsP (s ++ d) C
def digP (K V C : List ByteArray) : ByteArray := dig 103 (kidsP (pairsP (one K.length) K V ++ one C.length) C)
mutual
def digT : T → ByteArray
 | ⟨K, V, l⟩ => digP K V (digL l)
def digL : List T → List ByteArray
 | [] => []
 | t :: l => digT t :: digL l
end
theorem digL_map (l : List T) : digL l = l.map digT := by
 induction l with
 | nil => rfl
 | cons x l ih => rw [digL, List.map_cons, ih]
def okT (t : T) : Prop := T.rec (motive_1 := fun _ => Prop) (motive_2 := fun _ => Prop) (fun K V l h => K.length ≤ 4 ∧ V.length = K.length ∧ (l.length = 0 ∨ l.length = K.length + 1) ∧ h) True (fun _ _ h1 h2 => h1 ∧ h2) t
def okL (l : List T) : Prop := ∀ t ∈ l, okT t
theorem okT_eq (t : T) : okT t ↔ (t.f0.length ≤ 4 ∧ t.f1.length = t.f0.length ∧ (t.f2.length = 0 ∨ t.f2.length = t.f0.length + 1) ∧ okL t.f2) := by
 obtain ⟨K, V, l⟩ := t
 have key : ∀ l : List T, (T.rec_1 (motive_1 := fun _ => Prop) (motive_2 := fun _ => Prop) (fun K V l h => K.length ≤ 4 ∧ V.length = K.length ∧ (l.length = 0 ∨ l.length = K.length + 1) ∧ h) True (fun _ _ h1 h2 => h1 ∧ h2) l) ↔ okL l := by
  intro l
  induction l with
  | nil => exact ⟨fun _ => fun t h => absurd h List.not_mem_nil, fun _ => trivial⟩
  | cons t l ih =>
   constructor
   ·rintro ⟨h1, h2⟩ u hu
    rcases List.mem_cons.1 hu with rfl | hu
    ·exact h1
    ·exact ih.1 h2 u hu
   ·intro h
    exact ⟨h t List.mem_cons_self, ih.2 (fun u hu => h u (List.mem_cons_of_mem _ hu))⟩
 show (K.length ≤ 4 ∧ V.length = K.length ∧ (l.length = 0 ∨ l.length = K.length + 1) ∧ _) ↔ _
 rw [key l]
theorem wvK_nil (K : List ByteArray) : wvK [] K = K := by cases K <;> rfl
theorem wvV_nil (K : List ByteArray) : wvV [] K = K := by cases K <;> rfl
theorem keysT_eq (t : T) : keysT t = wvK t.f2 t.f0 := by obtain ⟨K, V, l⟩ := t; rw [keysT]
theorem valsT_eq (t : T) : valsT t = wvV t.f2 t.f1 := by obtain ⟨K, V, l⟩ := t; rw [valsT]
theorem levT_eq (t : T) : levT t = levH t.f2 := by obtain ⟨K, V, l⟩ := t; rw [levT]
theorem hT_eq (t : T) : hT t = hL t.f2 + 1 := by obtain ⟨K, V, l⟩ := t; rw [hT]
theorem digT_eq (t : T) : digT t = digP t.f0 t.f1 (t.f2.map digT) := by obtain ⟨K, V, l⟩ := t; rw [digT, digL_map]
theorem hL_mem (l : List T) : ∀ t ∈ l, hT t ≤ hL l := by
 induction l with
 | nil => intro t h; cases h
 | cons a l ih =>
  intro t h
  rw [hL]
  rcases List.mem_cons.1 h with rfl | h
  ·omega
  ·have := ih t h; omega
theorem readK_len {rd : Nat → Option (T × Nat)} : ∀ (ks : List Int) (a : Nat) (l : List T) (e : Nat), readK rd ks a = some (l, e) → l.length = ks.length := by
 intro ks
 induction ks with
 | nil => intro a l e h; simp only [readK, Option.some.injEq, Prod.mk.injEq] at h; rw [← h.1]; rfl
 | cons k ks ih =>
  intro a l e h
  rw [readK] at h
  by_cases c : k = (a : Int)
  ·rw [if_pos c] at h
   cases hr : rd a with
   | none => rw [hr] at h; cases h
   | some te =>
    obtain ⟨t, e1⟩ := te
    rw [hr] at h
    dsimp only at h
    cases hk : readK rd ks e1 with
    | none => rw [hk] at h; cases h
    | some le =>
     obtain ⟨l1, e2⟩ := le
     rw [hk] at h
     simp only [Option.some.injEq, Prod.mk.injEq] at h
     rw [← h.1, List.length_cons, List.length_cons, ih e1 l1 e2 hk]
  ·rw [if_neg c] at h; cases h
theorem readK_mem {rd : Nat → Option (T × Nat)} : ∀ (ks : List Int) (a : Nat) (l : List T) (e : Nat), readK rd ks a = some (l, e) → ∀ t ∈ l, ∃ b e', rd b = some (t, e') := by
 intro ks
 induction ks with
 | nil => intro a l e h t ht; simp only [readK, Option.some.injEq, Prod.mk.injEq] at h; rw [← h.1] at ht; cases ht
 | cons k ks ih =>
  intro a l e h t ht
  rw [readK] at h
  by_cases c : k = (a : Int)
  ·rw [if_pos c] at h
   cases hr : rd a with
   | none => rw [hr] at h; cases h
   | some te =>
    obtain ⟨t1, e1⟩ := te
    rw [hr] at h
    dsimp only at h
    cases hk : readK rd ks e1 with
    | none => rw [hk] at h; cases h
    | some le =>
     obtain ⟨l1, e2⟩ := le
     rw [hk] at h
     simp only [Option.some.injEq, Prod.mk.injEq] at h
     rw [← h.1] at ht
     rcases List.mem_cons.1 ht with rfl | ht
     ·exact ⟨a, e1, hr⟩
     ·exact ih e1 l1 e2 hk t ht
  ·rw [if_neg c] at h; cases h
theorem readF_open (ps : List S97) (n a : Nat) (t : T) (e : Nat) (h : readF ps (n + 1) a = some (t, e)) : ∃ p l, ps[a]? = some p ∧ okP p ∧ readK (readF ps n) p.f2 (a + 1) = some (l, e) ∧ t = ⟨p.f0, p.f1, l⟩ := by
 rw [readF] at h
 cases hp : ps[a]? with
 | none => rw [hp] at h; cases h
 | some p =>
  rw [hp] at h
  dsimp only at h
  by_cases c : okP p
  ·rw [if_pos c] at h
   cases hk : readK (readF ps n) p.f2 (a + 1) with
   | none => rw [hk] at h; cases h
   | some le =>
    obtain ⟨l, e1⟩ := le
    rw [hk] at h
    simp only [Option.some.injEq, Prod.mk.injEq] at h
    exact ⟨p, l, rfl, c, by rw [hk, h.2], h.1.symm⟩
  ·rw [if_neg c] at h; cases h
theorem readF_ok (ps : List S97) : ∀ (n a : Nat) (t : T) (e : Nat), readF ps n a = some (t, e) → okT t ∧ hT t ≤ n := by
 intro n
 induction n with
 | zero => intro a t e h; cases h
 | succ n ih =>
  intro a t e h
  obtain ⟨p, l, hp, hok, hk, rfl⟩ := readF_open ps n a t e h
  have hl := readK_len _ _ _ _ hk
  have hm := readK_mem _ _ _ _ hk
  refine ⟨(okT_eq _).2 ⟨hok.1, hok.2.1, ?_, fun u hu => ?_⟩, ?_⟩
  ·show l.length = 0 ∨ l.length = p.f0.length + 1
   rw [hl]; exact hok.2.2
  ·obtain ⟨b, e', hb⟩ := hm u hu
   exact (ih b u e' hb).1
  ·rw [hT_eq]
   show hL l + 1 ≤ n + 1
   have : ∀ m : List T, (∀ u ∈ m, hT u ≤ n) → hL m ≤ n := by
    intro m
    induction m with
    | nil => intro _; exact Nat.zero_le _
    | cons u m ih2 =>
     intro hu
     rw [hL]
     have := hu u List.mem_cons_self
     have := ih2 (fun v hv => hu v (List.mem_cons_of_mem _ hv))
     omega
   have := this l (fun u hu => by
    obtain ⟨b, e', hb⟩ := hm u hu
    exact (ih b u e' hb).2)
   omega
theorem wv_len : ∀ (l : List T) (K V : List ByteArray), K.length = V.length → (∀ t ∈ l, (keysT t).length = (valsT t).length) → (wvK l K).length = (wvV l V).length := by
 intro l
 induction l with
 | nil => intro K V h _; rw [wvK_nil, wvV_nil]; exact h
 | cons t l ih =>
  intro K V h ht
  have h1 := ht t List.mem_cons_self
  have h2 := fun u hu => ht u (List.mem_cons_of_mem _ hu)
  cases K with
  | nil =>
   cases V with
   | nil => rw [wvK, wvV, List.length_append, List.length_append, h1, ih [] [] rfl h2]
   | cons v V => cases h
  | cons k K =>
   cases V with
   | nil => cases h
   | cons v V => rw [wvK, wvV, List.length_append, List.length_append, List.length_cons, List.length_cons, h1, ih K V (by simpa using h) h2]
theorem kv_len (t : T) : okT t → (keysT t).length = (valsT t).length := by
 refine indT (P := fun t => okT t → (keysT t).length = (valsT t).length) (fun x ih h => ?_) t
 obtain ⟨h1, h2, h3, h4⟩ := (okT_eq x).1 h
 rw [keysT_eq, valsT_eq]
 exact wv_len x.f2 x.f0 x.f1 h2.symm (fun u hu => ih u hu (h4 u hu))
theorem wvK_len : ∀ (l : List T) (K : List ByteArray) (w : Nat), (l.map fun t => (keysT t).length).sum ≤ w → (wvK l K).length ≤ w + K.length := by
 intro l
 induction l with
 | nil => intro K w h; rw [wvK_nil]; omega
 | cons t l ih =>
  intro K w h
  rw [List.map_cons, List.sum_cons] at h
  cases K with
  | nil =>
   have := ih [] (w - (keysT t).length) (by omega)
   rw [wvK, List.length_append]; omega
  | cons k K =>
   have := ih K (w - (keysT t).length) (by omega)
   rw [wvK, List.length_append, List.length_cons, List.length_cons]; omega
theorem readK_cnt {rd : Nat → Option (T × Nat)} (hrd : ∀ a t e, rd a = some (t, e) → (keysT t).length + 4 * a ≤ 4 * e) : ∀ (ks : List Int) (a : Nat) (l : List T) (e : Nat), readK rd ks a = some (l, e) → (l.map fun t => (keysT t).length).sum + 4 * a ≤ 4 * e := by
 intro ks
 induction ks with
 | nil => intro a l e h; simp only [readK, Option.some.injEq, Prod.mk.injEq] at h; rw [← h.1, ← h.2]; simp
 | cons k ks ih =>
  intro a l e h
  rw [readK] at h
  by_cases c : k = (a : Int)
  ·rw [if_pos c] at h
   cases hr : rd a with
   | none => rw [hr] at h; cases h
   | some te =>
    obtain ⟨t1, e1⟩ := te
    rw [hr] at h
    dsimp only at h
    cases hk : readK rd ks e1 with
    | none => rw [hk] at h; cases h
    | some le =>
     obtain ⟨l1, e2⟩ := le
     rw [hk] at h
     simp only [Option.some.injEq, Prod.mk.injEq] at h
     have h1 := hrd a t1 e1 hr
     have h2 := ih e1 l1 e2 hk
     rw [← h.1, ← h.2, List.map_cons, List.sum_cons]
     omega
  ·rw [if_neg c] at h; cases h
theorem readF_cnt (ps : List S97) : ∀ (n a : Nat) (t : T) (e : Nat), readF ps n a = some (t, e) → (keysT t).length + 4 * a ≤ 4 * e := by
 intro n
 induction n with
 | zero => intro a t e h; cases h
 | succ n ih =>
  intro a t e h
  obtain ⟨p, l, hp, hok, hk, rfl⟩ := readF_open ps n a t e h
  have h1 := readK_cnt ih _ _ _ _ hk
  have h2 := wvK_len l p.f0 _ (Nat.le_refl _)
  have h3 := hok.1
  rw [keysT_eq]
  show (wvK l p.f0).length + 4 * a ≤ 4 * e
  omega
end Go.Proofs.Ytnplghcbdaiogaa.QP
end
section
namespace Go.Proofs.Ytnplghcbdaiogaa.QO
open Go.RowKit Go.Proofs.YtnplghcbdaiogaaW.PrintWords Go.Proofs.YtnplghcbdaiogaaW.PrintLast Go.Proofs.YtnplghcbdaiogaaW.PrintMore Go.Proofs.Ytnplghcbdaiogaa.PB Go.Proofs.Ytnplghcbdaiogaa.PD Go.Proofs.Ytnplghcbdaiogaa.PK Go.Proofs.Ytnplghcbdaiogaa.PL Go.Proofs.Ytnplghcbdaiogaa.PT Go.Proofs.Ytnplghcbdaiogaa.PU Go.Proofs.Ytnplghcbdaiogaa.PG Go.Proofs.Ytnplghcbdaiogaa.PW Go.Proofs.Ytnplghcbdaiogaa.QW Go.Proofs.Ytnplghcbdaiogaa.PA Go.Proofs.Ytnplghcbdaiogaa.QP
set_option linter.unusedVariables false
theorem rdS_at (l : List S95) (i : Nat) (h : i < l.length) : rd_N95 l (i : Int) = l[i] := by
 unfold rd_N95; rw [Int.toNat_natCast, List.getD_eq_getElem?_getD, List.getElem?_eq_getElem h]; rfl
theorem rdI_at (l : List S74) (i : Nat) (h : i < l.length) : rd_N74 l (i : Int) = l[i] := by
 unfold rd_N74; rw [Int.toNat_natCast, List.getD_eq_getElem?_getD, List.getElem?_eq_getElem h]; rfl
theorem er95_f (x : S95) : (er95 x).f0 = x.f0 ∧ (er95 x).f1 = x.f1 ∧ (er95 x).f2 = x.f2.map er95 := by rw [er95_eq]; exact ⟨rfl, rfl, rfl⟩
theorem er74_f (x : S74) : (er74 x).f0 = x.f0 ∧ (er74 x).f1 = x.f1 ∧ (er74 x).f2 = x.f2.map er74 := by rw [er74_eq]; exact ⟨rfl, rfl, rfl⟩
theorem wvK_mid (t : T) (l : List T) (k : ByteArray) (K : List ByteArray) : wvK (t :: l) (k :: K) = keysT t ++ k :: wvK l K := by rw [wvK]
theorem wvV_mid (t : T) (l : List T) (k : ByteArray) (K : List ByteArray) : wvV (t :: l) (k :: K) = valsT t ++ k :: wvV l K := by rw [wvV]
theorem wvK_last (t : T) : wvK [t] [] = keysT t := by rw [wvK, wvK_nil, List.append_nil]
theorem wvV_last (t : T) : wvV [t] [] = valsT t := by rw [wvV, wvV_nil, List.append_nil]
theorem allS (x : S95) : okT (er95 x) → ∀ l1 l2 : List ByteArray, l1.length + (keysT (er95 x)).length < 8796093022208 → l2.length + (valsT (er95 x)).length < 8796093022208 → Ev (fun k => spec_l5T_all.f k x l1 l2) (l1 ++ keysT (er95 x), l2 ++ valsT (er95 x)) := by
 refine ind95 (P := fun x => okT (er95 x) → ∀ l1 l2 : List ByteArray, l1.length + (keysT (er95 x)).length < 8796093022208 → l2.length + (valsT (er95 x)).length < 8796093022208 → Ev (fun k => spec_l5T_all.f k x l1 l2) (l1 ++ keysT (er95 x), l2 ++ valsT (er95 x))) (fun x ih hok => ?_) x
 obtain ⟨e0, e1, e2⟩ := er95_f x
 obtain ⟨h1, h2, h3, h4⟩ := (okT_eq _).1 hok
 rw [keysT_eq, valsT_eq]
 rw [e0] at h1 h2 h3
 rw [e1] at h2
 rw [e2] at h3 h4
 rw [e0, e1, e2]
 rw [List.length_map] at h3
 have key : ∀ (d i : Nat) (a1 a2 : List ByteArray), i + d = x.f0.length + 1 → a1.length + (wvK ((x.f2.map er95).drop i) (x.f0.drop i)).length < 8796093022208 → a2.length + (wvV ((x.f2.map er95).drop i) (x.f1.drop i)).length < 8796093022208 →
   Ev (fun k => spec_l5T_all.l0 k x a1 a2 (i : Int)) (a1 ++ wvK ((x.f2.map er95).drop i) (x.f0.drop i), a2 ++ wvV ((x.f2.map er95).drop i) (x.f1.drop i)) := by
  intro d
  induction d with
  | zero =>
   intro i a1 a2 hi b1 b2
   rw [List.drop_eq_nil_of_le (by rw [List.length_map]; omega), List.drop_eq_nil_of_le (by omega), List.drop_eq_nil_of_le (by omega), wvK_nil, wvV_nil, List.append_nil, List.append_nil]
   exact Ev.step (f := fun _ => some (a1, a2)) (fun k => by simp only [spec_l5T_all.l0]; rw [if_neg (by omega)]) (Ev.now _)
  | succ d ihd =>
   intro i a1 a2 hi b1 b2
   have hw : wrap64 ((i : Int) + 1) = ((i + 1 : Nat) : Int) := by rw [w64 (x := (i : Int) + 1) (by omega) (by omega)]; rfl
   refine Ev.step (f := fun k => _) (fun k => by simp only [spec_l5T_all.l0]; rfl) ?_
   refine ev_pos (by omega) (ev_const (rfl : spec_l5T_leaf.f x = some _) ?_)
   rcases Nat.eq_zero_or_pos x.f2.length with hz | hz
   ·have hn : x.f2 = [] := List.eq_nil_of_length_eq_zero hz
    rw [hn] at b1 b2 ⊢
    rw [List.map_nil, List.drop_nil, wvK_nil] at b1
    rw [List.map_nil, List.drop_nil, wvV_nil] at b2
    rw [List.map_nil, List.drop_nil, wvK_nil, wvV_nil]
    refine ev_pos (by simp) ?_
    rcases Nat.lt_or_ge i x.f0.length with hlt | hge
    ·rw [List.drop_eq_getElem_cons hlt] at b1
     rw [List.drop_eq_getElem_cons (by omega : i < x.f1.length)] at b2
     rw [List.length_cons] at b1 b2
     refine ev_pos (by omega) (ev_pos (by omega) (ev_pos (by omega) (ev_pos (by omega) (ev_pos (by omega) ?_))))
     rw [hw, rdOf_at _ _ _ hlt, rdOf_at _ _ _ (by omega : i < x.f1.length)]
     have := ihd (i + 1) (a1 ++ [x.f0[i]]) (a2 ++ [x.f1[i]]) (by omega) (by rw [hn, List.map_nil, List.drop_nil, wvK_nil, List.length_append]; simp only [List.length_cons, List.length_nil]; omega) (by rw [hn, List.map_nil, List.drop_nil, wvV_nil, List.length_append]; simp only [List.length_cons, List.length_nil]; omega)
     rw [hn, List.map_nil, List.drop_nil, wvK_nil, wvV_nil, List.append_assoc, List.append_assoc] at this
     rw [List.drop_eq_getElem_cons hlt, List.drop_eq_getElem_cons (by omega : i < x.f1.length)]
     exact this
    ·refine ev_neg (by omega) ?_
     rw [hw]
     have := ihd (i + 1) a1 a2 (by omega) (by rw [hn, List.map_nil, List.drop_nil, wvK_nil, List.drop_eq_nil_of_le (by omega)]; simp only [List.length_nil]; omega) (by rw [hn, List.map_nil, List.drop_nil, wvV_nil, List.drop_eq_nil_of_le (by omega)]; simp only [List.length_nil]; omega)
     rw [hn, List.map_nil, List.drop_nil, wvK_nil, wvV_nil, List.drop_eq_nil_of_le (by omega), List.drop_eq_nil_of_le (by omega)] at this
     rw [List.drop_eq_nil_of_le (by omega), List.drop_eq_nil_of_le (by omega)]
     exact this
   ·have hk : x.f2.length = x.f0.length + 1 := by omega
    have hi2 : i < x.f2.length := by omega
    refine ev_neg (by rw [beq_iff_eq]; omega) (ev_pos (by omega) (ev_pos (by omega) ?_))
    rw [rdS_at _ _ hi2]
    have hdm : (x.f2.map er95).drop i = er95 (x.f2[i]) :: (x.f2.map er95).drop (i + 1) := by
     rw [List.drop_eq_getElem_cons (by rw [List.length_map]; exact hi2), List.getElem_map]
    have hmem := List.getElem_mem hi2
    have hih := ih _ hmem (h4 _ (List.mem_map_of_mem hmem))
    rw [hdm] at b1 b2 ⊢
    rcases Nat.lt_or_ge i x.f0.length with hlt | hge
    ·rw [List.drop_eq_getElem_cons hlt, wvK_mid] at b1
     rw [List.drop_eq_getElem_cons (by omega : i < x.f1.length), wvV_mid] at b2
     rw [List.length_append, List.length_cons] at b1 b2
     refine ev_bind (hih a1 a2 (by omega) (by omega)) ?_
     refine ev_pos (by omega) (ev_pos (by rw [List.length_append]; omega) (ev_pos (by omega) (ev_pos (by rw [List.length_append]; omega) ?_)))
     rw [hw, rdOf_at _ _ _ hlt, rdOf_at _ _ _ (by omega : i < x.f1.length)]
     have := ihd (i + 1) (a1 ++ keysT (er95 x.f2[i]) ++ [x.f0[i]]) (a2 ++ valsT (er95 x.f2[i]) ++ [x.f1[i]]) (by omega) (by simp only [List.length_append, List.length_cons, List.length_nil]; omega) (by simp only [List.length_append, List.length_cons, List.length_nil]; omega)
     rw [List.drop_eq_getElem_cons hlt, List.drop_eq_getElem_cons (by omega : i < x.f1.length), wvK_mid, wvV_mid]
     simp only [List.append_assoc, List.cons_append, List.nil_append] at this ⊢
     exact this
    ·have hl : i = x.f0.length := by omega
     have hd0 : (x.f2.map er95).drop (i + 1) = [] := List.drop_eq_nil_of_le (by rw [List.length_map]; omega)
     rw [hd0, List.drop_eq_nil_of_le (by omega : x.f0.length ≤ i), wvK_last] at b1
     rw [hd0, List.drop_eq_nil_of_le (by omega : x.f1.length ≤ i), wvV_last] at b2
     rw [hd0, List.drop_eq_nil_of_le (by omega : x.f0.length ≤ i), List.drop_eq_nil_of_le (by omega : x.f1.length ≤ i), wvK_last, wvV_last]
     refine ev_bind (hih a1 a2 (by omega) (by omega)) (ev_neg (by omega) ?_)
     rw [hw]
     have := ihd (i + 1) (a1 ++ keysT (er95 x.f2[i])) (a2 ++ valsT (er95 x.f2[i])) (by omega) (by rw [hd0, List.drop_eq_nil_of_le (by omega : x.f0.length ≤ i + 1), wvK_nil, List.length_append]; simp only [List.length_nil]; omega) (by rw [hd0, List.drop_eq_nil_of_le (by omega : x.f1.length ≤ i + 1), wvV_nil, List.length_append]; simp only [List.length_nil]; omega)
     rw [hd0, List.drop_eq_nil_of_le (by omega : x.f0.length ≤ i + 1), List.drop_eq_nil_of_le (by omega : x.f1.length ≤ i + 1), wvK_nil, wvV_nil, List.append_nil, List.append_nil] at this
     exact this
 intro l1 l2 b1 b2
 refine Ev.step (f := fun k => spec_l5T_all.l0 k x l1 l2 ((0 : Nat) : Int)) (fun k => by simp only [spec_l5T_all.f]; rfl) ?_
 have := key (x.f0.length + 1) 0 l1 l2 (by omega) (by simpa using b1) (by simpa using b2)
 simpa using this
theorem allI (x : S74) : okT (er74 x) → ∀ l1 l2 : List ByteArray, l1.length + (keysT (er74 x)).length < 8796093022208 → l2.length + (valsT (er74 x)).length < 8796093022208 → Ev (fun k => impl_node_all.f k x l1 l2) (l1 ++ keysT (er74 x), l2 ++ valsT (er74 x)) := by
 refine ind74 (P := fun x => okT (er74 x) → ∀ l1 l2 : List ByteArray, l1.length + (keysT (er74 x)).length < 8796093022208 → l2.length + (valsT (er74 x)).length < 8796093022208 → Ev (fun k => impl_node_all.f k x l1 l2) (l1 ++ keysT (er74 x), l2 ++ valsT (er74 x))) (fun x ih hok => ?_) x
 obtain ⟨e0, e1, e2⟩ := er74_f x
 obtain ⟨h1, h2, h3, h4⟩ := (okT_eq _).1 hok
 rw [keysT_eq, valsT_eq]
 rw [e0] at h1 h2 h3
 rw [e1] at h2
 rw [e2] at h3 h4
 rw [e0, e1, e2]
 rw [List.length_map] at h3
 have key : ∀ (d i : Nat) (a1 a2 : List ByteArray), i + d = x.f0.length → a1.length + (wvK ((x.f2.map er74).drop i) (x.f0.drop i)).length < 8796093022208 → a2.length + (wvV ((x.f2.map er74).drop i) (x.f1.drop i)).length < 8796093022208 →
   Ev (fun k => impl_node_all.l0 k x a1 a2 x.f0 (x.f0.length : Int) (i : Int)) (a1 ++ wvK ((x.f2.map er74).drop i) (x.f0.drop i), a2 ++ wvV ((x.f2.map er74).drop i) (x.f1.drop i)) := by
  intro d
  induction d with
  | zero =>
   intro i a1 a2 hi b1 b2
   have hi' : i = x.f0.length := by omega
   subst hi'
   refine Ev.step (f := fun k => _) (fun k => by simp only [impl_node_all.l0]; rfl) ?_
   refine ev_neg (by omega) (ev_const (rfl : impl_node_isLeaf.f x = some _) ?_)
   rcases Nat.eq_zero_or_pos x.f2.length with hz | hz
   ·have hn : x.f2 = [] := List.eq_nil_of_length_eq_zero hz
    refine ev_pos (by rw [hn]; rfl) ?_
    rw [hn, List.map_nil, List.drop_nil, wvK_nil, wvV_nil, List.drop_eq_nil_of_le (Nat.le_refl _), List.drop_eq_nil_of_le (by omega : x.f1.length ≤ x.f0.length), List.append_nil, List.append_nil]
    exact Ev.now _
   ·have hk : x.f2.length = x.f0.length + 1 := by omega
    have hi2 : x.f0.length < x.f2.length := by omega
    refine ev_neg (by rw [beq_iff_eq]; omega) (ev_pos (by omega) (ev_pos (by omega) ?_))
    rw [rdI_at _ _ hi2]
    have hdm : (x.f2.map er74).drop x.f0.length = [er74 (x.f2[x.f0.length])] := by
     rw [List.drop_eq_getElem_cons (by rw [List.length_map]; exact hi2), List.getElem_map, List.drop_eq_nil_of_le (by rw [List.length_map]; omega)]
    have hmem := List.getElem_mem hi2
    have hih := ih _ hmem (h4 _ (List.mem_map_of_mem hmem))
    rw [hdm, List.drop_eq_nil_of_le (Nat.le_refl _), wvK_last] at b1
    rw [hdm, List.drop_eq_nil_of_le (by omega : x.f1.length ≤ x.f0.length), wvV_last] at b2
    rw [hdm, List.drop_eq_nil_of_le (Nat.le_refl _), List.drop_eq_nil_of_le (by omega : x.f1.length ≤ x.f0.length), wvK_last, wvV_last]
    exact ev_bind (hih a1 a2 b1 b2) (Ev.now _)
  | succ d ihd =>
   intro i a1 a2 hi b1 b2
   have hw : wrap64 ((i : Int) + 1) = ((i + 1 : Nat) : Int) := by rw [w64 (x := (i : Int) + 1) (by omega) (by omega)]; rfl
   have hlt : i < x.f0.length := by omega
   have hlt1 : i < x.f1.length := by omega
   refine Ev.step (f := fun k => _) (fun k => by simp only [impl_node_all.l0]; rfl) ?_
   refine ev_pos (by omega) (ev_pos (by omega) (ev_pos (by omega) (ev_const (rfl : impl_node_isLeaf.f x = some _) ?_)))
   rcases Nat.eq_zero_or_pos x.f2.length with hz | hz
   ·have hn : x.f2 = [] := List.eq_nil_of_length_eq_zero hz
    rw [hn, List.map_nil, List.drop_nil, wvK_nil, List.drop_eq_getElem_cons hlt, List.length_cons] at b1
    rw [hn, List.map_nil, List.drop_nil, wvV_nil, List.drop_eq_getElem_cons hlt1, List.length_cons] at b2
    refine ev_pos (by rw [hn]; rfl) (ev_const rfl (ev_pos (by simp only [List.length_cons, List.length_nil]; omega) (ev_pos (by omega) (ev_const rfl (ev_pos (by simp only [List.length_cons, List.length_nil]; omega) ?_)))))
    rw [hw, rdOf_at _ _ _ hlt, rdOf_at _ _ _ hlt1]
    have := ihd (i + 1) (a1 ++ [x.f0[i]]) (a2 ++ [x.f1[i]]) (by omega) (by rw [hn, List.map_nil, List.drop_nil, wvK_nil, List.length_append]; simp only [List.length_cons, List.length_nil]; omega) (by rw [hn, List.map_nil, List.drop_nil, wvV_nil, List.length_append]; simp only [List.length_cons, List.length_nil]; omega)
    rw [hn, List.map_nil, List.drop_nil, wvK_nil, wvV_nil, List.append_assoc, List.append_assoc] at this
    rw [hn, List.map_nil, List.drop_nil, wvK_nil, wvV_nil, List.drop_eq_getElem_cons hlt, List.drop_eq_getElem_cons hlt1]
    exact this
   ·have hk : x.f2.length = x.f0.length + 1 := by omega
    have hi2 : i < x.f2.length := by omega
    refine ev_neg (by rw [beq_iff_eq]; omega) (ev_pos (by omega) ?_)
    rw [rdI_at _ _ hi2]
    have hdm : (x.f2.map er74).drop i = er74 (x.f2[i]) :: (x.f2.map er74).drop (i + 1) := by
     rw [List.drop_eq_getElem_cons (by rw [List.length_map]; exact hi2), List.getElem_map]
    have hmem := List.getElem_mem hi2
    have hih := ih _ hmem (h4 _ (List.mem_map_of_mem hmem))
    rw [hdm] at b1 b2 ⊢
    rw [List.drop_eq_getElem_cons hlt, wvK_mid, List.length_append, List.length_cons] at b1
    rw [List.drop_eq_getElem_cons hlt1, wvV_mid, List.length_append, List.length_cons] at b2
    refine ev_bind (hih a1 a2 (by omega) (by omega)) ?_
    refine ev_const rfl (ev_pos (by simp only [List.length_append, List.length_cons, List.length_nil]; omega) (ev_pos (by omega) (ev_const rfl (ev_pos (by simp only [List.length_append, List.length_cons, List.length_nil]; omega) ?_))))
    rw [hw, rdOf_at _ _ _ hlt, rdOf_at _ _ _ hlt1]
    have := ihd (i + 1) (a1 ++ keysT (er74 x.f2[i]) ++ [x.f0[i]]) (a2 ++ valsT (er74 x.f2[i]) ++ [x.f1[i]]) (by omega) (by simp only [List.length_append, List.length_cons, List.length_nil]; omega) (by simp only [List.length_append, List.length_cons, List.length_nil]; omega)
    rw [List.drop_eq_getElem_cons hlt, List.drop_eq_getElem_cons hlt1, wvK_mid, wvV_mid]
    simp only [List.append_assoc, List.cons_append, List.nil_append] at this ⊢
    exact this
 intro l1 l2 b1 b2
 refine Ev.step (f := fun k => impl_node_all.l0 k x l1 l2 x.f0 (x.f0.length : Int) ((0 : Nat) : Int)) (fun k => by simp only [impl_node_all.f]; rfl) ?_
 have := key x.f0.length 0 l1 l2 (by omega) (by simpa using b1) (by simpa using b2)
 simpa using this
def lvS : Option Nat → Int
 | none => -1
 | some d => (d : Int)
theorem levL_iff (d : Nat) (l : List T) : levL d l = true ↔ ∀ t ∈ l, levT t = some d ∧ 2 ≤ t.f0.length := by
 induction l with
 | nil => exact ⟨fun _ t h => absurd h List.not_mem_nil, fun _ => by rw [levL]⟩
 | cons a l ih =>
  rw [levL, Bool.and_eq_true, Bool.and_eq_true, decide_eq_true_iff, decide_eq_true_iff, ih]
  constructor
  ·rintro ⟨h1, h2, h3⟩ t ht
   rcases List.mem_cons.1 ht with rfl | ht
   ·exact ⟨h1, h2⟩
   ·exact h3 t ht
  ·intro h
   exact ⟨(h a List.mem_cons_self).1, (h a List.mem_cons_self).2, fun t ht => h t (List.mem_cons_of_mem _ ht)⟩
theorem levH_eq (t : T) (l : List T) : levH (t :: l) = match levT t with
  | none => none
  | some d => if levL d (t :: l) = true then some (d + 1) else none := by
 rw [levH]
 cases h : levT t with
 | none => rfl
 | some d =>
  have : levL d (t :: l) = (decide (2 ≤ t.f0.length) && levL d l) := by
   rw [levL, h, decide_eq_true rfl, Bool.true_and]
  dsimp only
  rw [this]
theorem lev_le (t : T) : ∀ d, levT t = some d → d ≤ hT t := by
 refine indT (P := fun t => ∀ d, levT t = some d → d ≤ hT t) (fun x ih d h => ?_) t
 rw [levT_eq] at h
 rw [hT_eq]
 cases hl : x.f2 with
 | nil => rw [hl, levH] at h; injection h with h; omega
 | cons a l =>
  rw [hl, levH_eq] at h
  cases ha : levT a with
  | none => rw [ha] at h; cases h
  | some e =>
   rw [ha] at h
   dsimp only at h
   by_cases c : levL e (a :: l) = true
   ·rw [if_pos c] at h
    injection h with h
    have := ih a (by rw [hl]; exact List.mem_cons_self) e ha
    have := hL_mem (a :: l) a List.mem_cons_self
    omega
   ·rw [if_neg c] at h; cases h
theorem evenS (x : S95) : hT (er95 x) ≤ 1000000000000000000 → okT (er95 x) → Ev (fun k => spec_l5T_even.f k x) (lvS (levT (er95 x))) := by
 refine ind95 (P := fun x => hT (er95 x) ≤ 1000000000000000000 → okT (er95 x) → Ev (fun k => spec_l5T_even.f k x) (lvS (levT (er95 x)))) (fun x ih hh hok => ?_) x
 obtain ⟨e0, e1, e2⟩ := er95_f x
 obtain ⟨h1, h2, h3, h4⟩ := (okT_eq _).1 hok
 rw [e0, e2, List.length_map] at h3
 rw [e0] at h1
 rw [hT_eq, e2] at hh
 rw [e2] at h4
 rw [levT_eq, e2]
 refine Ev.step (f := fun k => _) (fun k => by simp only [spec_l5T_even.f]; rfl) ?_
 refine ev_const (rfl : spec_l5T_leaf.f x = some _) ?_
 have hgt : ∀ k ∈ x.f2, hT (er95 k) ≤ 1000000000000000000 := fun k hk => by have := hL_mem _ _ (List.mem_map_of_mem (f := er95) hk); omega
 rcases Nat.eq_zero_or_pos x.f2.length with hz | hz
 ·have hn : x.f2 = [] := List.eq_nil_of_length_eq_zero hz
  refine ev_pos (by rw [hn]; rfl) ?_
  rw [hn, List.map_nil, levH]
  exact Ev.now _
 ·refine ev_neg (by rw [beq_iff_eq]; omega) (ev_pos (by omega) ?_)
  have hm0 := List.getElem_mem hz
  have hk0 := ih _ hm0 (hgt _ hm0) (h4 _ (List.mem_map_of_mem hm0))
  have er : rd_N95 x.f2 0 = x.f2[0] := rdS_at x.f2 0 hz
  rw [er]
  refine ev_bind hk0 ?_
  have hd0 : x.f2.map er95 = er95 x.f2[0] :: (x.f2.map er95).drop 1 := by
   have := List.drop_eq_getElem_cons (l := x.f2.map er95) (i := 0) (by rw [List.length_map]; exact hz)
   rw [List.drop_zero, List.getElem_map] at this
   exact this
  cases hv : levT (er95 x.f2[0]) with
  | none =>
   rw [hd0, levH_eq, hv]
   refine Ev.step (f := fun k => _) (fun k => by simp only [spec_l5T_even.l0]; rfl) ?_
   exact ev_pos (by omega) (ev_pos (by omega) (ev_pos (by omega) (ev_pos (by show (-1 : Int) < 0; omega) (Ev.now _))))
  | some d =>
   have hdle : d ≤ 1000000000000000000 := Nat.le_trans (lev_le _ d hv) (hgt _ hm0)
   have key : ∀ (m i : Nat), i + m = x.f2.length → Ev (fun k => spec_l5T_even.l0 k (d : Int) x.f2 (x.f2.length : Int) (i : Int)) (if levL d ((x.f2.map er95).drop i) = true then (d : Int) + 1 else -1) := by
    intro m
    induction m with
    | zero =>
     intro i hi
     rw [List.drop_eq_nil_of_le (by rw [List.length_map]; omega), levL, if_pos rfl]
     refine Ev.step (f := fun k => _) (fun k => by simp only [spec_l5T_even.l0]; rfl) ?_
     refine ev_neg (by omega) ?_
     rw [w64 (x := (d : Int) + 1) (by omega) (by omega)]
     exact Ev.now _
    | succ m ihm =>
     intro i hi
     have hi2 : i < x.f2.length := by omega
     have hw : wrap64 ((i : Int) + 1) = ((i + 1 : Nat) : Int) := by rw [w64 (x := (i : Int) + 1) (by omega) (by omega)]; rfl
     have hmi := List.getElem_mem hi2
     have hdm : (x.f2.map er95).drop i = er95 (x.f2[i]) :: (x.f2.map er95).drop (i + 1) := by
      rw [List.drop_eq_getElem_cons (by rw [List.length_map]; exact hi2), List.getElem_map]
     rw [hdm, levL]
     refine Ev.step (f := fun k => _) (fun k => by simp only [spec_l5T_even.l0]; rfl) ?_
     refine ev_pos (by omega) (ev_pos (by omega) (ev_pos (by omega) (ev_neg (by omega) ?_)))
     rw [rdS_at _ _ hi2]
     refine ev_bind (ih _ hmi (hgt _ hmi) (h4 _ (List.mem_map_of_mem hmi))) ?_
     by_cases c : levT (er95 x.f2[i]) = some d
     ·rw [c, decide_eq_true rfl, Bool.true_and, (er95_f x.f2[i]).1]
      refine ev_pos rfl ?_
      by_cases c2 : 2 ≤ x.f2[i].f0.length
      ·rw [decide_eq_true c2, Bool.true_and, hw]
       exact ev_neg (by omega) (ihm (i + 1) (by omega))
      ·rw [decide_eq_false c2, Bool.false_and, if_neg (by simp)]
       exact ev_pos (by omega) (Ev.now _)
     ·rw [decide_eq_false c, Bool.false_and, if_neg (by simp)]
      refine ev_neg ?_ (Ev.now _)
      intro e
      apply c
      cases h : levT (er95 x.f2[i]) with
      | none => rw [h] at e; simp only [lvS] at e; omega
      | some d' => rw [h] at e; simp only [lvS] at e; congr 1; omega
   have hk := key x.f2.length 0 (by omega)
   rw [List.drop_zero] at hk
   refine ev_eq hk ?_
   rw [hd0, levH_eq, hv]
   dsimp only
   by_cases c : levL d (er95 x.f2[0] :: (x.f2.map er95).drop 1) = true
   ·rw [if_pos c, if_pos c]; rfl
   ·rw [if_neg c, if_neg c]; rfl
def dpI (t : T) : Int × Bool := match levT t with
 | none => (0, false)
 | some d => ((d : Int), t.f2.isEmpty || decide (0 < t.f0.length))
theorem depthI (x : S74) : hT (er74 x) ≤ 1000000000000000000 → okT (er74 x) → Ev (fun k => impl_node_depth.f k x) (dpI (er74 x)) := by
 refine ind74 (P := fun x => hT (er74 x) ≤ 1000000000000000000 → okT (er74 x) → Ev (fun k => impl_node_depth.f k x) (dpI (er74 x))) (fun x ih hh hok => ?_) x
 obtain ⟨e0, e1, e2⟩ := er74_f x
 obtain ⟨h1, h2, h3, h4⟩ := (okT_eq _).1 hok
 rw [e0, e2, List.length_map] at h3
 rw [e0] at h1
 rw [hT_eq, e2] at hh
 rw [e2] at h4
 refine Ev.step (f := fun k => _) (fun k => by simp only [impl_node_depth.f]; rfl) ?_
 refine ev_const (rfl : impl_node_isLeaf.f x = some _) ?_
 have hgt : ∀ k ∈ x.f2, hT (er74 k) ≤ 1000000000000000000 := fun k hk => by have := hL_mem _ _ (List.mem_map_of_mem (f := er74) hk); omega
 rcases Nat.eq_zero_or_pos x.f2.length with hz | hz
 ·have hn : x.f2 = [] := List.eq_nil_of_length_eq_zero hz
  refine ev_pos (by rw [hn]; rfl) ?_
  unfold dpI
  rw [levT_eq, e2, hn, List.map_nil, levH]
  exact Ev.now _
 ·refine ev_neg (by rw [beq_iff_eq]; omega) ?_
  have hm0 := List.getElem_mem hz
  have hd0 : x.f2.map er74 = er74 x.f2[0] :: (x.f2.map er74).drop 1 := by
   have := List.drop_eq_getElem_cons (l := x.f2.map er74) (i := 0) (by rw [List.length_map]; exact hz)
   rw [List.drop_zero, List.getElem_map] at this
   exact this
  have hne : (x.f2.map er74).isEmpty = false := by rw [hd0]; rfl
  have hk0 := ih _ hm0 (hgt _ hm0) (h4 _ (List.mem_map_of_mem hm0))
  -- a kid's answer
  have kid : ∀ (y : S74) (d : Nat), dpI (er74 y) = (match levT (er74 y) with | none => (0, false) | some d => ((d : Int), (er74 y).f2.isEmpty || decide (0 < (er74 y).f0.length))) := fun y d => rfl
  have key : ∀ (d : Nat) (_ : d ≤ 1000000000000000000) (m i : Nat), 0 < i → i + m = x.f2.length → Ev (fun k => impl_node_depth.l0 k x (d : Int) x.f2 (x.f2.length : Int) (i : Int)) (if levL d ((x.f2.map er74).drop i) = true then ((d : Int) + 1, decide (0 < x.f0.length)) else (0, false)) := by
   intro d hdle m
   induction m with
   | zero =>
    intro i hp hi
    rw [List.drop_eq_nil_of_le (by rw [List.length_map]; omega), levL, if_pos rfl]
    refine Ev.step (f := fun k => _) (fun k => by simp only [impl_node_depth.l0]; rfl) ?_
    refine ev_neg (by omega) ?_
    rw [w64 (x := (d : Int) + 1) (by omega) (by omega)]
    refine ev_eq (Ev.now _) ?_
    congr 1
    by_cases c : 0 < x.f0.length
    ·rw [decide_eq_true c, decide_eq_true (by omega)]
    ·rw [decide_eq_false c, decide_eq_false (by omega)]
   | succ m ihm =>
    intro i hp hi
    have hi2 : i < x.f2.length := by omega
    have hw : wrap64 ((i : Int) + 1) = ((i + 1 : Nat) : Int) := by rw [w64 (x := (i : Int) + 1) (by omega) (by omega)]; rfl
    have hmi := List.getElem_mem hi2
    have hdm : (x.f2.map er74).drop i = er74 (x.f2[i]) :: (x.f2.map er74).drop (i + 1) := by
     rw [List.drop_eq_getElem_cons (by rw [List.length_map]; exact hi2), List.getElem_map]
    rw [hdm, levL]
    refine Ev.step (f := fun k => _) (fun k => by simp only [impl_node_depth.l0]; rfl) ?_
    refine ev_pos (by omega) (ev_pos (by omega) (ev_pos (by omega) ?_))
    rw [rdI_at _ _ hi2]
    refine ev_bind (ih _ hmi (hgt _ hmi) (h4 _ (List.mem_map_of_mem hmi))) ?_
    rw [kid _ d]
    cases hv : levT (er74 x.f2[i]) with
    | none =>
     dsimp only
     rw [decide_eq_false (show ¬ ((none : Option Nat) = some d) by simp), Bool.false_and, if_neg (by simp)]
     exact ev_neg (by simp) (Ev.now _)
    | some d' =>
     dsimp only
     rw [(er74_f x.f2[i]).1]
     by_cases c2 : 2 ≤ x.f2[i].f0.length
     ·refine ev_pos (by show ((er74 x.f2[i]).f2.isEmpty || decide (0 < x.f2[i].f0.length)) = true; rw [decide_eq_true (by omega : 0 < x.f2[i].f0.length), Bool.or_true]) (ev_neg (by omega) (ev_pos (by omega) ?_))
      by_cases c : d' = d
      ·subst c
       rw [decide_eq_true rfl, Bool.true_and, decide_eq_true c2, Bool.true_and, hw]
       exact ev_pos rfl (ihm (i + 1) (by omega) (by omega))
      ·rw [decide_eq_false (show ¬ ((some d' : Option Nat) = some d) from fun e => c (Option.some.inj e)), Bool.false_and, if_neg (by simp)]
       exact ev_neg (by show ¬ ((d' : Int) = (d : Int)); omega) (Ev.now _)
     ·rw [decide_eq_false c2, Bool.false_and, Bool.and_false, if_neg (by simp)]
      by_cases cb : ((er74 x.f2[i]).f2.isEmpty || decide (0 < x.f2[i].f0.length)) = true
      ·exact ev_pos cb (ev_pos (by omega) (Ev.now _))
      ·exact ev_neg cb (Ev.now _)
  have er : rd_N74 x.f2 ((0 : Nat) : Int) = x.f2[0] := rdI_at x.f2 0 hz
  show Ev (fun k => impl_node_depth.l0 k x 0 x.f2 (x.f2.length : Int) ((0 : Nat) : Int)) _
  refine Ev.step (f := fun k => _) (fun k => by simp only [impl_node_depth.l0]; rfl) ?_
  refine ev_pos (by omega) (ev_pos (by omega) (ev_pos (by omega) ?_))
  rw [er]
  refine ev_bind hk0 ?_
  rw [kid _ 0]
  unfold dpI
  rw [levT_eq (er74 x), e2, hd0, levH_eq, ← hd0, hne, Bool.false_or, e0]
  cases hv : levT (er74 x.f2[0]) with
  | none => exact ev_neg (by simp) (Ev.now _)
  | some d =>
   have hdle : d ≤ 1000000000000000000 := Nat.le_trans (lev_le _ d hv) (hgt _ hm0)
   have hw : wrap64 (((0 : Nat) : Int) + 1) = ((1 : Nat) : Int) := by rw [w64 (x := ((0 : Nat) : Int) + 1) (by omega) (by omega)]; rfl
   dsimp only
   rw [hd0, levL, hv, decide_eq_true rfl, Bool.true_and, (er74_f x.f2[0]).1]
   by_cases c2 : 2 ≤ x.f2[0].f0.length
   ·refine ev_pos (by rw [decide_eq_true (by omega : 0 < x.f2[0].f0.length), Bool.or_true]) (ev_neg (by omega) (ev_neg (by omega) ?_))
    rw [hw, decide_eq_true c2, Bool.true_and]
    refine ev_eq (key d hdle (x.f2.length - 1) 1 (by omega) (by omega)) ?_
    by_cases c : levL d ((x.f2.map er74).drop 1) = true
    ·rw [if_pos c, if_pos c]; rfl
    ·rw [if_neg c, if_neg c]
   ·rw [decide_eq_false c2, Bool.false_and, if_neg (by simp)]
    by_cases cb : ((er74 x.f2[0]).f2.isEmpty || decide (0 < x.f2[0].f0.length)) = true
    ·exact ev_pos cb (ev_pos (by omega) (Ev.now _))
    ·exact ev_neg cb (Ev.now _)
end Go.Proofs.Ytnplghcbdaiogaa.QO
end
section
namespace Go.Proofs.Ytnplghcbdaiogaa.QQ
open Go.RowKit Go.Proofs.YtnplghcbdaiogaaW.PrintWords Go.Proofs.YtnplghcbdaiogaaW.PrintLast Go.Proofs.YtnplghcbdaiogaaW.PrintMore Go.Proofs.Ytnplghcbdaiogaa.PB Go.Proofs.Ytnplghcbdaiogaa.PD Go.Proofs.Ytnplghcbdaiogaa.PK Go.Proofs.Ytnplghcbdaiogaa.PL Go.Proofs.Ytnplghcbdaiogaa.PT Go.Proofs.Ytnplghcbdaiogaa.PU Go.Proofs.Ytnplghcbdaiogaa.PG Go.Proofs.Ytnplghcbdaiogaa.PW Go.Proofs.Ytnplghcbdaiogaa.QW Go.Proofs.Ytnplghcbdaiogaa.PA Go.Proofs.Ytnplghcbdaiogaa.QP Go.Proofs.Ytnplghcbdaiogaa.QO
set_option linter.unusedVariables false
theorem kidsP_size : ∀ (C : List ByteArray) (x : ByteArray), (∀ s ∈ C, s.size = 4) → (kidsP x C).size = x.size + 4 * C.length := by
 intro C
 induction C with
 | nil => intro x _; rfl
 | cons d C ih =>
  intro x h
  rw [kidsP, ih _ (fun s hs => h s (List.mem_cons_of_mem _ hs)), app_size, h d List.mem_cons_self, List.length_cons]
  omega
theorem pairsP_size : ∀ (K V : List ByteArray) (x : ByteArray), (∀ s ∈ K, s.size ≤ 12) → (∀ s ∈ V, s.size ≤ 12) → (pairsP x K V).size ≤ x.size + 26 * K.length := by
 intro K
 induction K with
 | nil => intro V x _ _; rw [pairsP.eq_def]; simp
 | cons k K ih =>
  intro V x hK hV
  cases V with
  | nil => rw [pairsP.eq_def]; simp
  | cons v V =>
   rw [pairsP]
   have h1 := ih V (x ++ (((one k.size ++ k) ++ one v.size) ++ v)) (fun s hs => hK s (List.mem_cons_of_mem _ hs)) (fun s hs => hV s (List.mem_cons_of_mem _ hs))
   have h2 := hK k List.mem_cons_self
   have h3 := hV v List.mem_cons_self
   simp only [app_size, one_size, List.length_cons] at h1 ⊢
   omega
def Pg (K V C : List ByteArray) : Prop := K.length ≤ 4 ∧ V.length = K.length ∧ (∀ s ∈ K, s.size ≤ 12) ∧ (∀ s ∈ V, s.size ≤ 12) ∧ C.length ≤ 5 ∧ ∀ s ∈ C, s.size = 4
theorem bytesS (K V C : List ByteArray) (g : Int) (h : Pg K V C) : Ev (fun k => spec_l6Bytes.f k K V C g) (kidsP (pairsP (one K.length) K V ++ one C.length) C) := by
 obtain ⟨h1, h2, h3, h4, h5, h6⟩ := h
 have kids : ∀ (d i : Nat) (x : ByteArray), i + d = C.length → x.size ≤ 500 + 4 * i → Ev (fun k => spec_l6Bytes.l1 k x C (C.length : Int) (i : Int)) (kidsP x (C.drop i)) := by
  intro d
  induction d with
  | zero =>
   intro i x hi hx
   rw [List.drop_eq_nil_of_le (by omega)]
   refine Ev.step (f := fun _ => some x) (fun k => ?_) (Ev.now _)
   simp only [spec_l6Bytes.l1]; rw [if_neg (by omega)]
  | succ d ih =>
   intro i x hi hx
   have hlt : i < C.length := by omega
   have hs : (C[i]).size = 4 := h6 _ (List.getElem_mem hlt)
   rw [List.drop_eq_getElem_cons hlt, kidsP]
   refine Ev.step (f := fun k => spec_l6Bytes.l1 k (x ++ C[i]) C (C.length : Int) ((i + 1 : Nat) : Int)) (fun k => ?_) (ih (i + 1) (x ++ C[i]) (by omega) (by rw [app_size, hs]; omega))
   simp only [spec_l6Bytes.l1]
   rw [rdOf_at _ _ _ hlt, if_pos (by omega), if_pos (by omega), if_pos (by omega), if_pos (by omega), w64 (x := (i : Int) + 1) (by omega) (by omega)]
   rfl
 have pairs : ∀ (d i : Nat) (x : ByteArray), i + d = K.length → x.size ≤ 1 + 40 * i → Ev (fun k => spec_l6Bytes.l0 k x K (K.length : Int) (i : Int) K V C g) (kidsP (pairsP x (K.drop i) (V.drop i) ++ one C.length) C) := by
  intro d
  induction d with
  | zero =>
   intro i x hi hx
   rw [List.drop_eq_nil_of_le (by omega : K.length ≤ i)]
   have hk := kids C.length 0 (x ++ one C.length) (by omega) (by rw [app_size, one_size]; omega)
   rw [List.drop_zero] at hk
   have e : pairsP x [] (V.drop i) = x := by rw [pairsP.eq_def]
   rw [e]
   refine Ev.step (f := fun k => spec_l6Bytes.l1 k (x ++ one C.length) C (C.length : Int) ((0 : Nat) : Int)) (fun k => ?_) hk
   simp only [spec_l6Bytes.l0, Option.bind_some]
   rw [if_neg (by omega), if_pos (by rw [show strOfNums [(C.length : Int) % 256] = one C.length from rfl, one_size]; omega)]
   rfl
  | succ d ih =>
   intro i x hi hx
   have hlt : i < K.length := by omega
   have hlt1 : i < V.length := by omega
   have ks := h3 _ (List.getElem_mem hlt)
   have vs := h4 _ (List.getElem_mem hlt1)
   rw [List.drop_eq_getElem_cons hlt, List.drop_eq_getElem_cons hlt1, pairsP]
   have hh := ih (i + 1) (x ++ (((one K[i].size ++ K[i]) ++ one V[i].size) ++ V[i])) (by omega) (by simp only [app_size, one_size]; omega)
   refine Ev.step (f := fun k => spec_l6Bytes.l0 k (x ++ (((one K[i].size ++ K[i]) ++ one V[i].size) ++ V[i])) K (K.length : Int) ((i + 1 : Nat) : Int) K V C g) (fun k => ?_) hh
   simp only [spec_l6Bytes.l0, Option.bind_some]
   rw [rdOf_at _ _ _ hlt, rdOf_at _ _ _ hlt1]
   rw [show strOfNums [(K[i].size : Int) % 256] = one K[i].size from rfl, show strOfNums [(V[i].size : Int) % 256] = one V[i].size from rfl]
   rw [if_pos (by omega), if_pos (by omega), if_pos (by omega), if_pos (by rw [one_size]; omega), if_pos (by omega), if_pos (by simp only [app_size, one_size]; omega), if_pos (by simp only [app_size, one_size]; omega), if_pos (by simp only [app_size, one_size]; omega), w64 (x := (i : Int) + 1) (by omega) (by omega)]
   rfl
 have := pairs K.length 0 (one K.length) (by omega) (by rw [one_size]; omega)
 rw [List.drop_zero, List.drop_zero] at this
 exact this
theorem bytes_le {K V C : List ByteArray} (h : Pg K V C) : (kidsP (pairsP (one K.length) K V ++ one C.length) C).size ≤ 1000 := by
 obtain ⟨h1, h2, h3, h4, h5, h6⟩ := h
 rw [kidsP_size _ _ h6, app_size, one_size]
 have := pairsP_size K V (one K.length) h3 h4
 rw [one_size] at this
 omega
theorem digestS (K V C : List ByteArray) (g : Int) (h : Pg K V C) : Ev (fun k => spec_l6Digest.f k K V C g) (digP K V C) := by
 unfold spec_l6Digest.f
 exact ev_bind (bytesS K V C g h) (ev_bind (digS 103 k103 _ (by have := bytes_le h; omega)) (Ev.now _))
theorem digestI (K V C : List ByteArray) (g : Int) (h : Pg K V C) : Ev (fun k => impl_Shown_digest.f k K V C g) (digP K V C) := by
 unfold impl_Shown_digest.f
 exact ev_bind (Ev.congr (fun k => bytes_eq k K V C g) (bytesS K V C g h)) (ev_bind (digI 103 k103 _ (by have := bytes_le h; omega)) (Ev.now _))
theorem mem_wvK_key (s : ByteArray) : ∀ (l : List T) (K : List ByteArray), s ∈ K → s ∈ wvK l K := by
 intro l
 induction l with
 | nil => intro K h; rw [wvK_nil]; exact h
 | cons t l ih =>
  intro K h
  cases K with
  | nil => cases h
  | cons k K =>
   rw [wvK_mid]
   rcases List.mem_cons.1 h with rfl | h
   ·exact List.mem_append_right _ List.mem_cons_self
   ·exact List.mem_append_right _ (List.mem_cons_of_mem _ (ih K h))
theorem mem_wvV_key (s : ByteArray) : ∀ (l : List T) (K : List ByteArray), s ∈ K → s ∈ wvV l K := by
 intro l
 induction l with
 | nil => intro K h; rw [wvV_nil]; exact h
 | cons t l ih =>
  intro K h
  cases K with
  | nil => cases h
  | cons k K =>
   rw [wvV_mid]
   rcases List.mem_cons.1 h with rfl | h
   ·exact List.mem_append_right _ List.mem_cons_self
   ·exact List.mem_append_right _ (List.mem_cons_of_mem _ (ih K h))
theorem mem_wvK_kid (s : ByteArray) (t : T) (hs : s ∈ keysT t) : ∀ (l : List T) (K : List ByteArray), t ∈ l → s ∈ wvK l K := by
 intro l
 induction l with
 | nil => intro K h; cases h
 | cons u l ih =>
  intro K h
  cases K with
  | nil =>
   rw [wvK]
   rcases List.mem_cons.1 h with rfl | h
   ·exact List.mem_append_left _ hs
   ·exact List.mem_append_right _ (ih [] h)
  | cons k K =>
   rw [wvK_mid]
   rcases List.mem_cons.1 h with rfl | h
   ·exact List.mem_append_left _ hs
   ·exact List.mem_append_right _ (List.mem_cons_of_mem _ (ih K h))
theorem mem_wvV_kid (s : ByteArray) (t : T) (hs : s ∈ valsT t) : ∀ (l : List T) (K : List ByteArray), t ∈ l → s ∈ wvV l K := by
 intro l
 induction l with
 | nil => intro K h; cases h
 | cons u l ih =>
  intro K h
  cases K with
  | nil =>
   rw [wvV]
   rcases List.mem_cons.1 h with rfl | h
   ·exact List.mem_append_left _ hs
   ·exact List.mem_append_right _ (ih [] h)
  | cons k K =>
   rw [wvV_mid]
   rcases List.mem_cons.1 h with rfl | h
   ·exact List.mem_append_left _ hs
   ·exact List.mem_append_right _ (List.mem_cons_of_mem _ (ih K h))
def smT (t : T) : Prop := (∀ s ∈ keysT t, s.size ≤ 12) ∧ ∀ s ∈ valsT t, s.size ≤ 12
theorem smT_kid {t u : T} (h : smT t) (hu : u ∈ t.f2) : smT u := by
 unfold smT at h
 rw [keysT_eq, valsT_eq] at h
 exact ⟨fun s hs => h.1 s (mem_wvK_kid s u hs _ _ hu), fun s hs => h.2 s (mem_wvV_kid s u hs _ _ hu)⟩
theorem digT_size (t : T) : (digT t).size = 4 := by rw [digT_eq]; exact dig_size _ _
theorem pg_of (t : T) (hok : okT t) (hs : smT t) : Pg t.f0 t.f1 (t.f2.map digT) := by
 obtain ⟨h1, h2, h3, h4⟩ := (okT_eq t).1 hok
 unfold smT at hs
 rw [keysT_eq, valsT_eq] at hs
 refine ⟨h1, h2, fun s h => hs.1 s (mem_wvK_key s _ _ h), fun s h => hs.2 s (mem_wvV_key s _ _ h), by rw [List.length_map]; omega, fun s h => ?_⟩
 obtain ⟨u, _, rfl⟩ := List.mem_map.1 h
 exact digT_size u
theorem shownS (x : S95) : okT (er95 x) → smT (er95 x) → Ev (fun k => spec_l6Shown.f k x) (x.f0, x.f1, x.f2.map (fun y => digT (er95 y)), 0) ∧ Ev (fun k => spec_l6Digest.f k x.f0 x.f1 (x.f2.map (fun y => digT (er95 y))) 0) (digT (er95 x)) := by
 refine ind95 (P := fun x => okT (er95 x) → smT (er95 x) → Ev (fun k => spec_l6Shown.f k x) (x.f0, x.f1, x.f2.map (fun y => digT (er95 y)), 0) ∧ Ev (fun k => spec_l6Digest.f k x.f0 x.f1 (x.f2.map (fun y => digT (er95 y))) 0) (digT (er95 x))) (fun x ih hok hsm => ?_) x
 obtain ⟨e0, e1, e2⟩ := er95_f x
 obtain ⟨h1, h2, h3, h4⟩ := (okT_eq _).1 hok
 have hpg := pg_of _ hok hsm
 rw [e0, e1, e2, List.map_map] at hpg
 rw [e0, e2, List.length_map] at h3
 rw [e0] at h1
 rw [e1, e0] at h2
 have hkid : ∀ y ∈ x.f2, okT (er95 y) ∧ smT (er95 y) := fun y hy => by
  have hm : er95 y ∈ (er95 x).f2 := by rw [e2]; exact List.mem_map_of_mem hy
  exact ⟨h4 _ hm, smT_kid hsm hm⟩
 refine ⟨?_, ?_⟩
 ·have key : ∀ (m i : Nat) (C : List ByteArray), i + m = x.f2.length → C.length = i → Ev (fun k => spec_l6Shown.l0 k x.f2 (x.f2.length : Int) (i : Int) x.f0 x.f1 C 0) (x.f0, x.f1, C ++ (x.f2.drop i).map (fun y => digT (er95 y)), 0) := by
   intro m
   induction m with
   | zero =>
    intro i C hi hC
    rw [List.drop_eq_nil_of_le (by omega), List.map_nil, List.append_nil]
    exact Ev.step (f := fun _ => some _) (fun k => by simp only [spec_l6Shown.l0]; rw [if_neg (by omega)]) (Ev.now _)
   | succ m ihm =>
    intro i C hi hC
    have hi2 : i < x.f2.length := by omega
    have hw : wrap64 ((i : Int) + 1) = ((i + 1 : Nat) : Int) := by rw [w64 (x := (i : Int) + 1) (by omega) (by omega)]; rfl
    have hmi := List.getElem_mem hi2
    obtain ⟨q1, q2⟩ := ih _ hmi (hkid _ hmi).1 (hkid _ hmi).2
    refine Ev.step (f := fun k => _) (fun k => by simp only [spec_l6Shown.l0]; rfl) ?_
    refine ev_pos (by omega) (ev_pos (by omega) (ev_pos (by omega) ?_))
    rw [rdS_at _ _ hi2]
    refine ev_bind q1 (ev_bind q2 (ev_pos (by omega) ?_))
    rw [hw]
    have := ihm (i + 1) (C ++ [digT (er95 x.f2[i])]) (by omega) (by rw [List.length_append, hC]; rfl)
    rw [List.drop_eq_getElem_cons hi2, List.map_cons]
    rw [List.append_assoc] at this
    exact this
  refine Ev.step (f := fun k => _) (fun k => by simp only [spec_l6Shown.f]; rfl) ?_
  refine ev_const rfl (ev_pos (by simp only [List.length_nil]; omega) (ev_const rfl (ev_pos (by simp only [List.length_nil]; omega) ?_)))
  have := key x.f2.length 0 [] (by omega) rfl
  rw [List.drop_zero] at this
  exact this
 ·refine ev_eq (digestS _ _ _ _ hpg) ?_
  rw [digT_eq, e0, e1, e2, List.map_map]
  rfl
theorem shownI (x : S74) : okT (er74 x) → smT (er74 x) → Ev (fun k => impl_node_shown.f k x) (x.f0, x.f1, x.f2.map (fun y => digT (er74 y)), 0) ∧ Ev (fun k => impl_Shown_digest.f k x.f0 x.f1 (x.f2.map (fun y => digT (er74 y))) 0) (digT (er74 x)) := by
 refine ind74 (P := fun x => okT (er74 x) → smT (er74 x) → Ev (fun k => impl_node_shown.f k x) (x.f0, x.f1, x.f2.map (fun y => digT (er74 y)), 0) ∧ Ev (fun k => impl_Shown_digest.f k x.f0 x.f1 (x.f2.map (fun y => digT (er74 y))) 0) (digT (er74 x))) (fun x ih hok hsm => ?_) x
 obtain ⟨e0, e1, e2⟩ := er74_f x
 obtain ⟨h1, h2, h3, h4⟩ := (okT_eq _).1 hok
 have hpg := pg_of _ hok hsm
 rw [e0, e1, e2, List.map_map] at hpg
 rw [e0, e2, List.length_map] at h3
 rw [e0] at h1
 rw [e1, e0] at h2
 have hkid : ∀ y ∈ x.f2, okT (er74 y) ∧ smT (er74 y) := fun y hy => by
  have hm : er74 y ∈ (er74 x).f2 := by rw [e2]; exact List.mem_map_of_mem hy
  exact ⟨h4 _ hm, smT_kid hsm hm⟩
 refine ⟨?_, ?_⟩
 ·have key : ∀ (m i : Nat) (C : List ByteArray), i + m = x.f2.length → C.length = i → Ev (fun k => impl_node_shown.l0 k x.f2 (x.f2.length : Int) (i : Int) x.f0 x.f1 C 0) (x.f0, x.f1, C ++ (x.f2.drop i).map (fun y => digT (er74 y)), 0) := by
   intro m
   induction m with
   | zero =>
    intro i C hi hC
    rw [List.drop_eq_nil_of_le (by omega), List.map_nil, List.append_nil]
    exact Ev.step (f := fun _ => some _) (fun k => by simp only [impl_node_shown.l0]; rw [if_neg (by omega)]) (Ev.now _)
   | succ m ihm =>
    intro i C hi hC
    have hi2 : i < x.f2.length := by omega
    have hw : wrap64 ((i : Int) + 1) = ((i + 1 : Nat) : Int) := by rw [w64 (x := (i : Int) + 1) (by omega) (by omega)]; rfl
    have hmi := List.getElem_mem hi2
    obtain ⟨q1, q2⟩ := ih _ hmi (hkid _ hmi).1 (hkid _ hmi).2
    refine Ev.step (f := fun k => _) (fun k => by simp only [impl_node_shown.l0]; rfl) ?_
    refine ev_pos (by omega) (ev_pos (by omega) (ev_pos (by omega) ?_))
    rw [rdI_at _ _ hi2]
    refine ev_bind q1 (ev_bind q2 (ev_pos (by omega) ?_))
    rw [hw]
    have := ihm (i + 1) (C ++ [digT (er74 x.f2[i])]) (by omega) (by rw [List.length_append, hC]; rfl)
    rw [List.drop_eq_getElem_cons hi2, List.map_cons]
    rw [List.append_assoc] at this
    exact this
  have hcl : ∀ K : List ByteArray, K.length ≤ 4 → slices_Clone_string_string.f K = some K := fun K hK => by
   unfold slices_Clone_string_string.f; rw [Option.bind_some, if_pos (by simp only [List.length_nil]; omega), List.nil_append]
  refine Ev.step (f := fun k => _) (fun k => by simp only [impl_node_shown.f]; rfl) ?_
  refine ev_const (hcl _ h1) (ev_const (hcl _ (by omega)) ?_)
  have := key x.f2.length 0 [] (by omega) rfl
  rw [List.drop_zero] at this
  exact this
 ·refine ev_eq (digestI _ _ _ _ hpg) ?_
  rw [digT_eq, e0, e1, e2, List.map_map]
  rfl
end Go.Proofs.Ytnplghcbdaiogaa.QQ
end
