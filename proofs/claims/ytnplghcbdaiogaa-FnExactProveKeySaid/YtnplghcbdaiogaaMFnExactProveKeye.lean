/- For the law FnExactProveKey (laid by merge.py). -/
import Derived.Test.YtnplghcbdaiogaaMFnExactProveKeyd
import Derived.Laws.BitsLemmas
section
namespace Go.Proofs.Ytnplghcbdaiogaa.PA
open Go.RowKit Go.Proofs.YtnplghcbdaiogaaW.PrintWords Go.Proofs.YtnplghcbdaiogaaW.PrintLast Go.Proofs.YtnplghcbdaiogaaW.PrintMore
attribute [local go_sem] max2_int min2_int max_two min_two max_three min_three max_four min_four
set_option linter.unusedVariables false
set_option linter.unusedSimpArgs false
set_option maxHeartbeats 60000000
set_option maxRecDepth 100000
mutual
def impl_node_shown.l0 : Nat → List (S74) → Int → Int → List ByteArray → List ByteArray → List ByteArray → Int → Option (List ByteArray × List ByteArray × List ByteArray × Int)
 | 0, _, _, _, _, _, _, _ => none
 | k + 1, x20, x21, x22, x10, x11, x12, x13 => if x22 < x21 then (if 0 ≤ x22 then (if x22 < (x20.length : Int) then ((impl_node_shown.f k (rd_N74 x20 x22)).bind fun bt14 => ((impl_Shown_digest.f k bt14.1 bt14.2.1 bt14.2.2.1 bt14.2.2.2).bind fun t15 => (if x12.length < 8796093022208 then (impl_node_shown.l0 k x20 x21 (wrap64 (x22 + 1)) x10 x11 (x12 ++ [t15]) x13) else (none)))) else (none)) else (none)) else (some (x10, x11, x12, x13))
def impl_node_shown.f : Nat → S74 → Option (List ByteArray × List ByteArray × List ByteArray × Int)
 | 0, _ => none
 | k + 1, a0 => (slices_Clone_string_string.f a0.f0).bind fun t16 => ((slices_Clone_string_string.f a0.f1).bind fun t17 => (impl_node_shown.l0 k a0.f2 (a0.f2.length : Int) 0 t16 t17 ([] : List ByteArray) 0))
end
def impl_node_shown.T1 : Bool × List (List Nat × List Nat) := (true, [([], []), ([0], [0]), ([1], [1]), ([2], [2]), ([3], [3]), ([], []), ([5], [5]), ([6], [6]), ([7], [7]), ([8, 4], [8]), ([4, 9], [4, 9]), ([], []), ([11, 10, 9, 0, 1, 2, 3, 4, 5, 6, 7, 8, 9, 10, 11], [10, 11])])
def impl_node_shown.B1 : List Nat := [0, 1, 3, 7, 15, 0, 32, 96, 224, 511, 1023, 0, 4095]
theorem impl_node_shown.tab1 : rtab .any (opsOf Try.f28 1) = impl_node_shown.T1 := by kernel_rfl
theorem impl_node_shown.bits1 : waitsOk impl_node_shown.T1.2 impl_node_shown.B1 = true := by kernel_rfl
def impl_node_shown.T5 : Bool × List (List Nat × List Nat) := (true, [([], []), ([0], [0]), ([], []), ([2], [2]), ([3, 3], [3]), ([4], [4]), ([1, 5, 4], [1, 5]), ([0, 1, 2, 3, 4, 5, 6], []), ([7, 6, 6, 0, 1, 2, 3, 4, 5, 6], [6, 7])])
def impl_node_shown.B5 : List Nat := [0, 1, 0, 4, 12, 28, 63, 127, 255]
theorem impl_node_shown.tab5 : rtab .any (opsOf Try.f28 5) = impl_node_shown.T5 := by kernel_rfl
theorem impl_node_shown.bits5 : waitsOk impl_node_shown.T5.2 impl_node_shown.B5 = true := by kernel_rfl
theorem impl_node_shown.calls (k : Nat) : ∀ (a0 : S74) (r1 : List ByteArray) (r2 : List ByteArray) (r3 : List ByteArray) (r4 : Int) (w : World) (hr0 : k74p.K w a0 [.pointer (some ⟨a0.adr, 0, none⟩)]) (h : impl_node_shown.f k a0 = some (r1, r2, r3, r4)),
  Calls Try.prog 28 #[.pointer (some ⟨a0.adr, 0, none⟩)] w fun e w' => ∃ v0_ v1_ v2_ : Value, e = .returned (.agg #[v0_, v1_, v2_, .int .i64 r4]) ∧ Kd.R Kd.string 9 w' w.heap.size (fun k_ => some k_ ≠ (v1_ : Value).ownBlock ∧ some k_ ≠ (v2_ : Value).ownBlock) v0_ r1 ∧ Kd.R Kd.string 9 w' w.heap.size (fun k_ => some k_ ≠ (v0_ : Value).ownBlock ∧ some k_ ≠ (v2_ : Value).ownBlock) v1_ r2 ∧ Kd.R Kd.string 9 w' w.heap.size (fun k_ => some k_ ≠ (v0_ : Value).ownBlock ∧ some k_ ≠ (v1_ : Value).ownBlock) v2_ r3 ∧ Below w.heap.size w w' := by
 induction k using Nat.strongRecOn with
 | _ k ih =>
 intro a0 r1 r2 r3 r4 w hr0 h
 cases k with
 | zero => exact absurd h (by simp [impl_node_shown.f])
 | succ k =>
 simp only [impl_node_shown.f] at h; have hu43 := Try.underlying43; have hu74 := Try.underlying74; have hu60 := Try.underlying60; have HR0 := zA hr0; clear hr0; obtain ⟨An0_0, cn0_0, An0_1, cn0_1, An0_2, cn0_2, hsn0_0, hsn0_1, hsn0_2, hln0_0, hin0_0, hln0_1, hin0_1, hln0_2, hin0_2⟩ := at_P74 HR0.out; have HXn0_0 := zA hsn0_0; have HRn0_0 := zA hin0_0; have HCn0_0 := zA hln0_0; have HXn0_1 := zA hsn0_1; have HRn0_1 := zA hin0_1; have HCn0_1 := zA hln0_1; have HXn0_2 := zA hsn0_2; have HRn0_2 := zA hin0_2; have HCn0_2 := zA hln0_2; clear hsn0_0 hin0_0 hln0_0 hsn0_1 hin0_1 hln0_1 hsn0_2 hin0_2 hln0_2; have HB := zA (Below.refl w.heap.size w); have H : ((slices_Clone_string_string.f a0.f0).bind fun t37 => ((slices_Clone_string_string.f a0.f1).bind fun t38 => (impl_node_shown.l0 k a0.f2 (a0.f2.length : Int) 0 t37 t38 ([] : List ByteArray) 0))) = some (r1, r2, r3, r4) := h; clear h; replace H := zAF H; obtain ⟨t37, A20, H⟩ := H; replace H : ((slices_Clone_string_string.f a0.f1).bind fun t38 => (impl_node_shown.l0 k a0.f2 (a0.f2.length : Int) 0 t37 t38 ([] : List ByteArray) 0)) = some (r1, r2, r3, r4) := H; have A2 := zA A20; clear A20; replace H := zAF H; obtain ⟨t38, A30, H⟩ := H; replace H : (impl_node_shown.l0 k a0.f2 (a0.f2.length : Int) 0 t37 t38 ([] : List ByteArray) 0) = some (r1, r2, r3, r4) := H; have A3 := zA A30; clear A30; have H' := zA H; clear H; go_enter Try.func28, Try.ntmps28
 try go_wp2_with (first | ((with_reducible refine gate_dst (N := 2) rfl ?_); refine box_event ?hg (N := 2) ?hd (cs := #[.slice none 0 0, .slice none 0 0, .slice none 0 0, .int .i64 0]) (t := 43) ?hr ?_; (case hd => rfl); (case hg => rfl); (case hr => first | (go_simp; done) | (go_simp; rfl)); intro gb39 hg w4 hbox hb; have n0_ := zA (zAD HB.out hb); have n1_ := zA (hbox); have n2_ := zA ((by rw [hg]; exact (zAE HB.out) : w.heap.size ≤ gb39)); have n3_ := zA ((by rw [hg]; exact (zAE HB.out) : w.heap.size ≤ gb39)); clear HB; have HB := n0_; have BK39 := n1_; have GW39 := n2_; have GE39 := n3_; clear n0_ n1_ n2_ n3_; clear hb hbox hg))
 have n0_ := zA (zN BK39.out); have n1_ := zA (zG HB.out); clear BK39 HB; have BK39 := n0_; have HB := n1_; clear n0_ n1_; have hx40_0 := HXn0_0.out; have hw40_0 := hx40_0; (try rw [show ((0 : Int)).toNat = 0 from rfl] at hw40_0); (try rw [show 0 * 3 = 0 from rfl] at hw40_0); (try rw [Addr.add_zero'] at hw40_0); have hx40_1 := HXn0_1.out; have hw40_1 := hx40_1; (try rw [show ((0 : Int)).toNat = 0 from rfl] at hw40_1); (try rw [show 0 * 3 = 0 from rfl] at hw40_1); (try rw [Addr.add_zero'] at hw40_1); have hx40_2 := HXn0_2.out; have hw40_2 := hx40_2; (try rw [show ((0 : Int)).toNat = 0 from rfl] at hw40_2); (try rw [show 0 * 3 = 0 from rfl] at hw40_2); (try rw [Addr.add_zero'] at hw40_2); replace hx40_0 := (HB.out.cell (zB w _ hx40_0)).trans hx40_0; replace hx40_1 := (HB.out.cell (zB w _ hx40_1)).trans hx40_1; replace hx40_2 := (HB.out.cell (zB w _ hx40_2)).trans hx40_2; have hx41_0 := HXn0_0.out; have hw41_0 := hx41_0; (try rw [show ((0 : Int)).toNat = 0 from rfl] at hw41_0); (try rw [show 0 * 3 = 0 from rfl] at hw41_0); (try rw [Addr.add_zero'] at hw41_0); have hx41_1 := HXn0_1.out; have hw41_1 := hx41_1; (try rw [show ((0 : Int)).toNat = 0 from rfl] at hw41_1); (try rw [show 0 * 3 = 0 from rfl] at hw41_1); (try rw [Addr.add_zero'] at hw41_1); have hx41_2 := HXn0_2.out; have hw41_2 := hx41_2; (try rw [show ((0 : Int)).toNat = 0 from rfl] at hw41_2); (try rw [show 0 * 3 = 0 from rfl] at hw41_2); (try rw [Addr.add_zero'] at hw41_2); replace hx41_0 := (HB.out.cell (zB w _ hx41_0)).trans hx41_0; replace hx41_1 := (HB.out.cell (zB w _ hx41_1)).trans hx41_1; replace hx41_2 := (HB.out.cell (zB w _ hx41_2)).trans hx41_2; refine start_ (n := 13) (S := fun w' => w'.cell? ⟨a0.adr, 0, none⟩ = some (.slice An0_0 a0.f0.length cn0_0) ∧ w'.cell? ⟨a0.adr, 1, none⟩ = some (.slice An0_1 a0.f1.length cn0_1) ∧ w'.cell? ⟨a0.adr, 2, none⟩ = some (.slice An0_2 a0.f2.length cn0_2) ∧ w'.cell? ⟨a0.adr, 0, none⟩ = some (.slice An0_0 a0.f0.length cn0_0) ∧ w'.cell? ⟨a0.adr, 1, none⟩ = some (.slice An0_1 a0.f1.length cn0_1) ∧ w'.cell? ⟨a0.adr, 2, none⟩ = some (.slice An0_2 a0.f2.length cn0_2)) (ds := []) (bA 13 0) (by kernel_rfl) rfl rfl ⟨((HB.out.cell (zB w _ hw40_0)).trans hw40_0), ((HB.out.cell (zB w _ hw40_1)).trans hw40_1), ((HB.out.cell (zB w _ hw40_2)).trans hw40_2), ((HB.out.cell (zB w _ hw41_0)).trans hw41_0), ((HB.out.cell (zB w _ hw41_1)).trans hw41_1), ((HB.out.cell (zB w _ hw41_2)).trans hw41_2)⟩ (fun hHeld => ?_); refine with_tabW impl_node_shown.tab1 impl_node_shown.bits1 (fun HT_ HW_ => ?_); generalize w4.drew = w5 at BK39 HB hx40_0 hx40_1 hx40_2 hx41_0 hx41_1 hx41_2 hHeld ⊢; refine wzP 0 6 (bA 13 1) HT_ ?_
 refine wzP 1 7 (bA 13 3) HT_ ?_
 refine wzP 2 8 (bA 13 7) HT_ ?_
 refine wzP 5 11 (bA 13 39) HT_ ?_
 refine wzP 6 12 (bA 13 103) HT_ ?_
 refine wzP 7 13 (bA 13 231) HT_ ?_
 refine wzT 3 9 (bA 13 239) HT_ HW_ hHeld ?_
 refine wzT 8 14 (bA 13 495) HT_ HW_ hHeld ?_
 refine join_ (σ := Value × Value × Nat) 1 (bA 13 4095) (fun s_ => [(10, s_.1), (15, s_.2.1), (3, .pointer (some ⟨s_.2.2, 0, none⟩)), (16, .agg #[s_.1, s_.2.1, .slice none 0 0, .int .i64 0])]) (fun s_ w' => (w'.cell? ⟨a0.adr, 0, none⟩ = some (.slice An0_0 a0.f0.length cn0_0) ∧ w'.cell? ⟨a0.adr, 1, none⟩ = some (.slice An0_1 a0.f1.length cn0_1) ∧ w'.cell? ⟨a0.adr, 2, none⟩ = some (.slice An0_2 a0.f2.length cn0_2) ∧ w'.cell? ⟨a0.adr, 0, none⟩ = some (.slice An0_0 a0.f0.length cn0_0) ∧ w'.cell? ⟨a0.adr, 1, none⟩ = some (.slice An0_1 a0.f1.length cn0_1) ∧ w'.cell? ⟨a0.adr, 2, none⟩ = some (.slice An0_2 a0.f2.length cn0_2)) ∧ (Kd.R Kd.string 9 w' w.heap.size (fun k_ => some k_ ≠ (s_.2.1 : Value).ownBlock) s_.1 t37) ∧ (Kd.R Kd.string 9 w' w.heap.size (fun k_ => some k_ ≠ (s_.1 : Value).ownBlock) s_.2.1 t38) ∧ (w'.heap[gb39]? = some (.cells #[.slice none 0 0, .slice none 0 0, .slice none 0 0, .int .i64 0] 43 (0, 0))) ∧ (w'.heap[s_.2.2]? = some (.cells #[.slice none 0 0, .slice none 0 0, .slice none 0 0, .int .i64 0] 43 (0, 0))) ∧ (w.heap.size ≤ s_.2.2) ∧ (w.heap.size ≤ s_.2.2) ∧ (gb39 ≠ s_.2.2) ∧ (s_.2.2 ≠ gb39) ∧ (Below w.heap.size w w')) ?_ ?_; rotate_left
 ·intro hCont
  refine two_ (i := 4) (j := 11) (Ni := some 10) (Nj := some 3) (bA 13 511) (bA 13 2543) rfl rfl rfl rfl (two_of HT_.out (by kernel_rfl)) (by decide) (by decide) (fun K hK => ?_) (fun K hK => ?_)
  ·skip
   refine goes_ Try.func65 (by kernel_rfl) rfl #[.slice An0_0 a0.f0.length cn0_0] (by rfl) rfl rfl (by (try simp only [zAA, zAB, zAC]); first | done | rfl | (simp only [zZ, zY]; rfl)) ?_
   with_reducible refine (slices_Clone_string_string.calls _ _ a0.f0 t37 _ ?side1 ?side2 A2.out).mono ?_
   (case side1 => exact (yN HRn0_0.out HB.out)); (case side2 => exact HCn0_0.out); rintro e w6 ⟨v42, rfl, ho0, hb⟩; refine ⟨_, rfl, ?_⟩; have n0_ := zA (Kd.R_lower ho0 (zAE HB.out)); have n1_ := zA (yE BK39.out hb); have n2_ := zA (zAD HB.out hb); clear BK39 HB; have HO44 := n0_; have BK39 := n1_; have HB := n2_; clear n0_ n1_ n2_; (try clear hb); (try clear ho0); refine hK.out _ _ ⟨((HB.out.cell (zB w _ hw40_0)).trans hw40_0), ((HB.out.cell (zB w _ hw40_1)).trans hw40_1), ((HB.out.cell (zB w _ hw40_2)).trans hw40_2), ((HB.out.cell (zB w _ hw41_0)).trans hw41_0), ((HB.out.cell (zB w _ hw41_1)).trans hw41_1), ((HB.out.cell (zB w _ hw41_2)).trans hw41_2)⟩ (fun hHeld => ?_); clear hK K; refine wzN 10 ?_
   refine two_ (i := 9) (j := 11) (Ni := some 15) (Nj := some 3) (bA 13 1023) (bA 13 2559) rfl rfl rfl rfl (two_of HT_.out (by kernel_rfl)) (by decide) (by decide) (fun K hK => ?_) (fun K hK => ?_)
   ·skip
    refine goes_ Try.func65 (by kernel_rfl) rfl #[.slice An0_1 a0.f1.length cn0_1] (by rfl) rfl rfl (by (try simp only [zAA, zAB, zAC]); first | done | rfl | (simp only [zZ, zY]; rfl)) ?_
    with_reducible refine (slices_Clone_string_string.calls _ _ a0.f1 t38 _ ?side1 ?side2 A3.out).mono ?_
    (case side1 => exact (yN HRn0_1.out HB.out)); (case side2 => exact HCn0_1.out); rintro e w7 ⟨v45, rfl, ho0, hb⟩; refine ⟨_, rfl, ?_⟩; have n0_ := zA (yJ HO44.out (Kd.R_base ho0) hb); have n1_ := zA (Kd.R_lower (yK ho0 (Kd.R_lt HO44.out)) (zAE HB.out)); have n2_ := zA (yE BK39.out hb); have n3_ := zA (zAD HB.out hb); clear HO44 BK39 HB; have HO44 := n0_; have HO46 := n1_; have BK39 := n2_; have HB := n3_; clear n0_ n1_ n2_ n3_; (try clear hb); (try clear ho0); obtain ⟨Ao8, co8, eo8⟩ := Kd.R_slice HO46.out; (first | subst eo8 | (injection eo8 with f1_ f2_ f3_; have f4_ := f1_.symm; have f5_ := f3_.symm; clear f1_ f2_ f3_; subst f4_; subst f5_)); obtain ⟨Ao9, co9, eo9⟩ := Kd.R_slice HO44.out; (first | subst eo9 | (injection eo9 with f1_ f2_ f3_; have f4_ := f1_.symm; have f5_ := f3_.symm; clear f1_ f2_ f3_; subst f4_; subst f5_)); refine hK.out _ _ ⟨((HB.out.cell (zB w _ hw40_0)).trans hw40_0), ((HB.out.cell (zB w _ hw40_1)).trans hw40_1), ((HB.out.cell (zB w _ hw40_2)).trans hw40_2), ((HB.out.cell (zB w _ hw41_0)).trans hw41_0), ((HB.out.cell (zB w _ hw41_1)).trans hw41_1), ((HB.out.cell (zB w _ hw41_2)).trans hw41_2)⟩ (fun hHeld => ?_); clear hK K; refine wzN 15 ?_
    refine wzP 10 16 (bA 13 2047) HT_ ?_
    refine one_ (i := 11) (N := some 3) (bA 13 4095) rfl rfl (one_of HT_.out (by kernel_rfl)) (by decide) (fun K hK => ?_); refine box_step ?hg (N := 3) ?hd (cs := #[.slice none 0 0, .slice none 0 0, .slice none 0 0, .int .i64 0]) (t := 43) ?hr ?_; (case hd => rfl); (case hg => rfl); (case hr => first | (go_simp; done) | (go_simp; rfl)); intro gb47 hg w10 hbox hb; have n0_ := zA (Kd.R_below HO44.out hb); have n1_ := zA (Kd.R_below HO46.out hb); have n2_ := zA (yE BK39.out hb); have n3_ := zA (zAD HB.out hb); have n4_ := zA (hbox); have n5_ := zA ((by rw [hg]; exact (zAE HB.out) : w.heap.size ≤ gb47)); have n6_ := zA ((by rw [hg]; exact (zAE HB.out) : w.heap.size ≤ gb47)); have n7_ := zA ((by rw [hg]; exact zK (blk_lt BK39.out) : gb39 ≠ gb47)); have n8_ := zA ((by rw [hg]; exact Nat.ne_of_gt (blk_lt BK39.out) : gb47 ≠ gb39)); clear HO44 HO46 BK39 HB; have HO44 := n0_; have HO46 := n1_; have BK39 := n2_; have HB := n3_; have BK47 := n4_; have GW47 := n5_; have GE47 := n6_; have NB39_47 := n7_; have NB47_39 := n8_; clear n0_ n1_ n2_ n3_ n4_ n5_ n6_ n7_ n8_ hb hbox hg; refine hK.out _ _ ⟨((HB.out.cell (zB w _ hw40_0)).trans hw40_0), ((HB.out.cell (zB w _ hw40_1)).trans hw40_1), ((HB.out.cell (zB w _ hw40_2)).trans hw40_2), ((HB.out.cell (zB w _ hw41_0)).trans hw41_0), ((HB.out.cell (zB w _ hw41_1)).trans hw41_1), ((HB.out.cell (zB w _ hw41_2)).trans hw41_2)⟩ (fun hHeld => ?_); clear hK K; refine wzN 3 ?_
    exact norm_ (by simp only [putAll, Act.put, zC, zD, zE]) (hCont (.slice Ao9 t37.length co9, .slice Ao8 t38.length co8, gb47) _ ⟨hHeld, (by (with_reducible repeat first | apply zQ | apply zR | apply zS); exact yC HO44.out (fun _ hk => hk.2)), (by (with_reducible repeat first | apply zQ | apply zR | apply zS); exact yC HO46.out (fun _ hk => hk.2)), BK39.out, BK47.out, GW47.out, GE47.out, NB39_47.out, NB47_39.out, HB.out⟩)
   ·skip
    refine box_step ?hg (N := 3) ?hd (cs := #[.slice none 0 0, .slice none 0 0, .slice none 0 0, .int .i64 0]) (t := 43) ?hr ?_; (case hd => rfl); (case hg => rfl); (case hr => first | (go_simp; done) | (go_simp; rfl)); intro gb47 hg w7 hbox hb; have n0_ := zA (Kd.R_below HO44.out hb); have n1_ := zA (yE BK39.out hb); have n2_ := zA (zAD HB.out hb); have n3_ := zA (hbox); have n4_ := zA ((by rw [hg]; exact (zAE HB.out) : w.heap.size ≤ gb47)); have n5_ := zA ((by rw [hg]; exact (zAE HB.out) : w.heap.size ≤ gb47)); have n6_ := zA ((by rw [hg]; exact zK (blk_lt BK39.out) : gb39 ≠ gb47)); have n7_ := zA ((by rw [hg]; exact Nat.ne_of_gt (blk_lt BK39.out) : gb47 ≠ gb39)); clear HO44 BK39 HB; have HO44 := n0_; have BK39 := n1_; have HB := n2_; have BK47 := n3_; have GW47 := n4_; have GE47 := n5_; have NB39_47 := n6_; have NB47_39 := n7_; clear n0_ n1_ n2_ n3_ n4_ n5_ n6_ n7_ hb hbox hg; refine hK.out _ _ ⟨((HB.out.cell (zB w _ hw40_0)).trans hw40_0), ((HB.out.cell (zB w _ hw40_1)).trans hw40_1), ((HB.out.cell (zB w _ hw40_2)).trans hw40_2), ((HB.out.cell (zB w _ hw41_0)).trans hw41_0), ((HB.out.cell (zB w _ hw41_1)).trans hw41_1), ((HB.out.cell (zB w _ hw41_2)).trans hw41_2)⟩ (fun hHeld => ?_); clear hK K; refine wzN 3 ?_
    refine one_ (i := 9) (N := some 15) (bA 13 3071) rfl rfl (one_of HT_.out (by kernel_rfl)) (by decide) (fun K hK => ?_); refine goes_ Try.func65 (by kernel_rfl) rfl #[.slice An0_1 a0.f1.length cn0_1] (by rfl) rfl rfl (by (try simp only [zAA, zAB, zAC]); first | done | rfl | (simp only [zZ, zY]; rfl)) ?_
    with_reducible refine (slices_Clone_string_string.calls _ _ a0.f1 t38 _ ?side1 ?side2 A3.out).mono ?_
    (case side1 => exact (yN HRn0_1.out HB.out)); (case side2 => exact HCn0_1.out); rintro e w8 ⟨v45, rfl, ho0, hb⟩; refine ⟨_, rfl, ?_⟩; have n0_ := zA (yJ HO44.out (Kd.R_base ho0) hb); have n1_ := zA (Kd.R_lower (yK ho0 (Kd.R_lt HO44.out)) (zAE HB.out)); have n2_ := zA (yE BK39.out hb); have n3_ := zA (yE BK47.out hb); have n4_ := zA (zAD HB.out hb); clear HO44 BK39 BK47 HB; have HO44 := n0_; have HO46 := n1_; have BK39 := n2_; have BK47 := n3_; have HB := n4_; clear n0_ n1_ n2_ n3_ n4_; (try clear hb); (try clear ho0); obtain ⟨Ao9, co9, eo9⟩ := Kd.R_slice HO46.out; (first | subst eo9 | (injection eo9 with f1_ f2_ f3_; have f4_ := f1_.symm; have f5_ := f3_.symm; clear f1_ f2_ f3_; subst f4_; subst f5_)); obtain ⟨Ao10, co10, eo10⟩ := Kd.R_slice HO44.out; (first | subst eo10 | (injection eo10 with f1_ f2_ f3_; have f4_ := f1_.symm; have f5_ := f3_.symm; clear f1_ f2_ f3_; subst f4_; subst f5_)); refine hK.out _ _ ⟨((HB.out.cell (zB w _ hw40_0)).trans hw40_0), ((HB.out.cell (zB w _ hw40_1)).trans hw40_1), ((HB.out.cell (zB w _ hw40_2)).trans hw40_2), ((HB.out.cell (zB w _ hw41_0)).trans hw41_0), ((HB.out.cell (zB w _ hw41_1)).trans hw41_1), ((HB.out.cell (zB w _ hw41_2)).trans hw41_2)⟩ (fun hHeld => ?_); clear hK K; refine wzN 15 ?_
    refine wzP 10 16 (bA 13 4095) HT_ ?_
    exact norm_ (by simp only [putAll, Act.put, zC, zD, zE]) (hCont (.slice Ao10 t37.length co10, .slice Ao9 t38.length co9, gb47) _ ⟨hHeld, (by (with_reducible repeat first | apply zQ | apply zR | apply zS); exact yC HO44.out (fun _ hk => hk.2)), (by (with_reducible repeat first | apply zQ | apply zR | apply zS); exact yC HO46.out (fun _ hk => hk.2)), BK39.out, BK47.out, GW47.out, GE47.out, NB39_47.out, NB47_39.out, HB.out⟩)
  ·skip
   refine box_step ?hg (N := 3) ?hd (cs := #[.slice none 0 0, .slice none 0 0, .slice none 0 0, .int .i64 0]) (t := 43) ?hr ?_; (case hd => rfl); (case hg => rfl); (case hr => first | (go_simp; done) | (go_simp; rfl)); intro gb47 hg w6 hbox hb; have n0_ := zA (yE BK39.out hb); have n1_ := zA (zAD HB.out hb); have n2_ := zA (hbox); have n3_ := zA ((by rw [hg]; exact (zAE HB.out) : w.heap.size ≤ gb47)); have n4_ := zA ((by rw [hg]; exact (zAE HB.out) : w.heap.size ≤ gb47)); have n5_ := zA ((by rw [hg]; exact zK (blk_lt BK39.out) : gb39 ≠ gb47)); have n6_ := zA ((by rw [hg]; exact Nat.ne_of_gt (blk_lt BK39.out) : gb47 ≠ gb39)); clear BK39 HB; have BK39 := n0_; have HB := n1_; have BK47 := n2_; have GW47 := n3_; have GE47 := n4_; have NB39_47 := n5_; have NB47_39 := n6_; clear n0_ n1_ n2_ n3_ n4_ n5_ n6_ hb hbox hg; refine hK.out _ _ ⟨((HB.out.cell (zB w _ hw40_0)).trans hw40_0), ((HB.out.cell (zB w _ hw40_1)).trans hw40_1), ((HB.out.cell (zB w _ hw40_2)).trans hw40_2), ((HB.out.cell (zB w _ hw41_0)).trans hw41_0), ((HB.out.cell (zB w _ hw41_1)).trans hw41_1), ((HB.out.cell (zB w _ hw41_2)).trans hw41_2)⟩ (fun hHeld => ?_); clear hK K; refine wzN 3 ?_
   refine one_ (i := 4) (N := some 10) (bA 13 2559) rfl rfl (one_of HT_.out (by kernel_rfl)) (by decide) (fun K hK => ?_); refine goes_ Try.func65 (by kernel_rfl) rfl #[.slice An0_0 a0.f0.length cn0_0] (by rfl) rfl rfl (by (try simp only [zAA, zAB, zAC]); first | done | rfl | (simp only [zZ, zY]; rfl)) ?_
   with_reducible refine (slices_Clone_string_string.calls _ _ a0.f0 t37 _ ?side1 ?side2 A2.out).mono ?_
   (case side1 => exact (yN HRn0_0.out HB.out)); (case side2 => exact HCn0_0.out); rintro e w7 ⟨v42, rfl, ho0, hb⟩; refine ⟨_, rfl, ?_⟩; have n0_ := zA (Kd.R_lower ho0 (zAE HB.out)); have n1_ := zA (yE BK39.out hb); have n2_ := zA (yE BK47.out hb); have n3_ := zA (zAD HB.out hb); clear BK39 BK47 HB; have HO44 := n0_; have BK39 := n1_; have BK47 := n2_; have HB := n3_; clear n0_ n1_ n2_ n3_; (try clear hb); (try clear ho0); refine hK.out _ _ ⟨((HB.out.cell (zB w _ hw40_0)).trans hw40_0), ((HB.out.cell (zB w _ hw40_1)).trans hw40_1), ((HB.out.cell (zB w _ hw40_2)).trans hw40_2), ((HB.out.cell (zB w _ hw41_0)).trans hw41_0), ((HB.out.cell (zB w _ hw41_1)).trans hw41_1), ((HB.out.cell (zB w _ hw41_2)).trans hw41_2)⟩ (fun hHeld => ?_); clear hK K; refine wzN 10 ?_
   refine one_ (i := 9) (N := some 15) (bA 13 3071) rfl rfl (one_of HT_.out (by kernel_rfl)) (by decide) (fun K hK => ?_); refine goes_ Try.func65 (by kernel_rfl) rfl #[.slice An0_1 a0.f1.length cn0_1] (by rfl) rfl rfl (by (try simp only [zAA, zAB, zAC]); first | done | rfl | (simp only [zZ, zY]; rfl)) ?_
   with_reducible refine (slices_Clone_string_string.calls _ _ a0.f1 t38 _ ?side1 ?side2 A3.out).mono ?_
   (case side1 => exact (yN HRn0_1.out HB.out)); (case side2 => exact HCn0_1.out); rintro e w8 ⟨v45, rfl, ho0, hb⟩; refine ⟨_, rfl, ?_⟩; have n0_ := zA (yJ HO44.out (Kd.R_base ho0) hb); have n1_ := zA (Kd.R_lower (yK ho0 (Kd.R_lt HO44.out)) (zAE HB.out)); have n2_ := zA (yE BK39.out hb); have n3_ := zA (yE BK47.out hb); have n4_ := zA (zAD HB.out hb); clear HO44 BK39 BK47 HB; have HO44 := n0_; have HO46 := n1_; have BK39 := n2_; have BK47 := n3_; have HB := n4_; clear n0_ n1_ n2_ n3_ n4_; (try clear hb); (try clear ho0); obtain ⟨Ao9, co9, eo9⟩ := Kd.R_slice HO46.out; (first | subst eo9 | (injection eo9 with f1_ f2_ f3_; have f4_ := f1_.symm; have f5_ := f3_.symm; clear f1_ f2_ f3_; subst f4_; subst f5_)); obtain ⟨Ao10, co10, eo10⟩ := Kd.R_slice HO44.out; (first | subst eo10 | (injection eo10 with f1_ f2_ f3_; have f4_ := f1_.symm; have f5_ := f3_.symm; clear f1_ f2_ f3_; subst f4_; subst f5_)); refine hK.out _ _ ⟨((HB.out.cell (zB w _ hw40_0)).trans hw40_0), ((HB.out.cell (zB w _ hw40_1)).trans hw40_1), ((HB.out.cell (zB w _ hw40_2)).trans hw40_2), ((HB.out.cell (zB w _ hw41_0)).trans hw41_0), ((HB.out.cell (zB w _ hw41_1)).trans hw41_1), ((HB.out.cell (zB w _ hw41_2)).trans hw41_2)⟩ (fun hHeld => ?_); clear hK K; refine wzN 15 ?_
   refine wzP 10 16 (bA 13 4095) HT_ ?_
   exact norm_ (by simp only [putAll, Act.put, zC, zD, zE]) (hCont (.slice Ao10 t37.length co10, .slice Ao9 t38.length co9, gb47) _ ⟨hHeld, (by (with_reducible repeat first | apply zQ | apply zR | apply zS); exact yC HO44.out (fun _ hk => hk.2)), (by (with_reducible repeat first | apply zQ | apply zR | apply zS); exact yC HO46.out (fun _ hk => hk.2)), BK39.out, BK47.out, GW47.out, GE47.out, NB39_47.out, NB47_39.out, HB.out⟩)
 rintro ⟨v42, v45, gb47⟩ w11 ⟨hS_, h0_, h1_, h2_, h3_, h4_, h5_, h6_, h7_, h8_⟩; have n0_ : Aside0 (Kd.R Kd.string 9 w11 w.heap.size (fun k_ => some k_ ≠ (v45 : Value).ownBlock) v42 t37) := ⟨h0_⟩; have n1_ : Aside0 (Kd.R Kd.string 9 w11 w.heap.size (fun k_ => some k_ ≠ (v42 : Value).ownBlock) v45 t38) := ⟨h1_⟩; have n2_ : Aside0 (w11.heap[gb39]? = some (.cells #[.slice none 0 0, .slice none 0 0, .slice none 0 0, .int .i64 0] 43 (0, 0))) := ⟨h2_⟩; have n3_ : Aside0 (w11.heap[gb47]? = some (.cells #[.slice none 0 0, .slice none 0 0, .slice none 0 0, .int .i64 0] 43 (0, 0))) := ⟨h3_⟩; have n4_ : Aside0 (w.heap.size ≤ gb47) := ⟨h4_⟩; have n5_ : Aside0 (w.heap.size ≤ gb47) := ⟨h5_⟩; have n6_ : Aside0 (gb39 ≠ gb47) := ⟨h6_⟩; have n7_ : Aside0 (gb47 ≠ gb39) := ⟨h7_⟩; have n8_ : Aside0 (Below w.heap.size w w11) := ⟨h8_⟩; clear BK39 HB h0_ h1_ h2_ h3_ h4_ h5_ h6_ h7_ h8_; have HO44 := n0_; have HO46 := n1_; have BK39 := n2_; have BK47 := n3_; have GW47 := n4_; have GE47 := n5_; have NB39_47 := n6_; have NB47_39 := n7_; have HB := n8_; clear n0_ n1_ n2_ n3_ n4_ n5_ n6_ n7_ n8_; have hHeld : w11.cell? ⟨a0.adr, 0, none⟩ = some (.slice An0_0 a0.f0.length cn0_0) ∧ w11.cell? ⟨a0.adr, 1, none⟩ = some (.slice An0_1 a0.f1.length cn0_1) ∧ w11.cell? ⟨a0.adr, 2, none⟩ = some (.slice An0_2 a0.f2.length cn0_2) ∧ w11.cell? ⟨a0.adr, 0, none⟩ = some (.slice An0_0 a0.f0.length cn0_0) ∧ w11.cell? ⟨a0.adr, 1, none⟩ = some (.slice An0_1 a0.f1.length cn0_1) ∧ w11.cell? ⟨a0.adr, 2, none⟩ = some (.slice An0_2 a0.f2.length cn0_2) := hS_; obtain ⟨Ao12, co12, eo12⟩ := Kd.R_slice HO46.out; (first | subst eo12 | (injection eo12 with f1_ f2_ f3_; have f4_ := f1_.symm; have f5_ := f3_.symm; clear f1_ f2_ f3_; subst f4_; subst f5_)); obtain ⟨Ao13, co13, eo13⟩ := Kd.R_slice HO44.out; (first | subst eo13 | (injection eo13 with f1_ f2_ f3_; have f4_ := f1_.symm; have f5_ := f3_.symm; clear f1_ f2_ f3_; subst f4_; subst f5_)); refine norm_ (a' := ?_) ?_ ?_; rotate_left
 ·simp only [putAll, Act.put, zC, zD, zE]
  rfl
 refine one_ (i := 12) (N := none) (bA 13 8191) rfl rfl (one_of HT_.out (by kernel_rfl)) (by decide) (fun K hK => ?_); have hs14 : w11.cell? ⟨gb47, 0, none⟩ = some (.slice none 0 0) := (zP BK47.out 0).trans rfl; have hfs14 := zO BK47.out 0; have hns14_0 := NB39_47.out; have hms14_0 := NB47_39.out; have hs15 : w11.cell? ⟨gb47, 1, none⟩ = some (.slice none 0 0) := (zP BK47.out 1).trans rfl; have hfs15 := zO BK47.out 1; have hns15_0 := NB39_47.out; have hms15_0 := NB47_39.out; have hs16 : w11.cell? ⟨gb47, 2, none⟩ = some (.slice none 0 0) := (zP BK47.out 2).trans rfl; have hfs16 := zO BK47.out 2; have hns16_0 := NB39_47.out; have hms16_0 := NB47_39.out; have hs17 : w11.cell? ⟨gb47, 3, none⟩ = some (.int .i64 0) := (zP BK47.out 3).trans rfl; have hfs17 := zO BK47.out 3; have hns17_0 := NB39_47.out; have hms17_0 := NB47_39.out; refine skip_ (w1 := ?_) (by rfl) rfl ?_ ?_; rotate_left
 ·go_simp
  rfl
 refine hK.out _ _ ⟨(wzC hw40_0 GW47.out ((wzC hw40_0 GW47.out ((wzC hw40_0 GW47.out ((wzC hw40_0 GW47.out (hHeld.1)))))))), (wzC hw40_1 GW47.out ((wzC hw40_1 GW47.out ((wzC hw40_1 GW47.out ((wzC hw40_1 GW47.out (hHeld.2.1)))))))), (wzC hw40_2 GW47.out ((wzC hw40_2 GW47.out ((wzC hw40_2 GW47.out ((wzC hw40_2 GW47.out (hHeld.2.2.1)))))))), (wzC hw41_0 GW47.out ((wzC hw41_0 GW47.out ((wzC hw41_0 GW47.out ((wzC hw41_0 GW47.out (hHeld.2.2.2.1)))))))), (wzC hw41_1 GW47.out ((wzC hw41_1 GW47.out ((wzC hw41_1 GW47.out ((wzC hw41_1 GW47.out (hHeld.2.2.2.2.1)))))))), (wzC hw41_2 GW47.out ((wzC hw41_2 GW47.out ((wzC hw41_2 GW47.out ((wzC hw41_2 GW47.out (hHeld.2.2.2.2.2))))))))⟩ (fun hHeld => ?_)
 clear hK K; refine done_ (done_of HT_.out (by kernel_rfl)) ?_; have hx48_0 := HXn0_0.out; have hx48_1 := HXn0_1.out; have hx48_2 := HXn0_2.out; have hn428_0 : a0.adr ≠ gb47 := zK (zJ (zB _ _ hx48_0) GW47.out); have hn428_1 : a0.adr ≠ gb47 := zK (zJ (zB _ _ hx48_0) GW47.out); have hn428_2 : a0.adr ≠ gb47 := zK (zJ (zB _ _ hx48_0) GW47.out); have hn428_3 : a0.adr ≠ gb47 := zK (zJ (zB _ _ hx48_0) GW47.out); replace hx48_0 := (HB.out.cell (zB w _ hx48_0)).trans hx48_0; replace hx48_1 := (HB.out.cell (zB w _ hx48_1)).trans hx48_1; replace hx48_2 := (HB.out.cell (zB w _ hx48_2)).trans hx48_2; replace hx48_0 := (yF (p := ⟨gb47, 0, none⟩) hn428_0 (.slice Ao13 t37.length co13)).trans hx48_0; replace hx48_1 := (yF (p := ⟨gb47, 0, none⟩) hn428_0 (.slice Ao13 t37.length co13)).trans hx48_1; replace hx48_2 := (yF (p := ⟨gb47, 0, none⟩) hn428_0 (.slice Ao13 t37.length co13)).trans hx48_2; replace hx48_0 := (yF (p := ⟨gb47, 1, none⟩) hn428_1 (.slice Ao12 t38.length co12)).trans hx48_0; replace hx48_1 := (yF (p := ⟨gb47, 1, none⟩) hn428_1 (.slice Ao12 t38.length co12)).trans hx48_1; replace hx48_2 := (yF (p := ⟨gb47, 1, none⟩) hn428_1 (.slice Ao12 t38.length co12)).trans hx48_2; replace hx48_0 := (yF (p := ⟨gb47, 2, none⟩) hn428_2 (.slice none 0 0)).trans hx48_0; replace hx48_1 := (yF (p := ⟨gb47, 2, none⟩) hn428_2 (.slice none 0 0)).trans hx48_1; replace hx48_2 := (yF (p := ⟨gb47, 2, none⟩) hn428_2 (.slice none 0 0)).trans hx48_2; replace hx48_0 := (yF (p := ⟨gb47, 3, none⟩) hn428_3 (.int .i64 0)).trans hx48_0; replace hx48_1 := (yF (p := ⟨gb47, 3, none⟩) hn428_3 (.int .i64 0)).trans hx48_1; replace hx48_2 := (yF (p := ⟨gb47, 3, none⟩) hn428_3 (.int .i64 0)).trans hx48_2; clear hn428_0 hn428_1 hn428_2 hn428_3
 try go_wp2
 go_loopg [22] k (fun kq v22 w' => ∃ (x22_1 : Int) (x49_1 : List ByteArray) (u428002 : Value), v22 = .int .i64 x22_1 ∧ Aside0 (impl_node_shown.l0 kq a0.f2 (a0.f2.length : Int) x22_1 t37 t38 x49_1 0 = some (r1, r2, r3, r4)) ∧ Aside0 (kq ≤ k) ∧ Aside0 (Kd.R Kd.string 9 w' w.heap.size (fun k_ => some k_ ≠ ((.slice Ao12 t38.length co12) : Value).ownBlock ∧ some k_ ≠ (u428002 : Value).ownBlock) (.slice Ao13 t37.length co13) t37) ∧ Aside0 (Kd.R Kd.string 9 w' w.heap.size (fun k_ => some k_ ≠ ((.slice Ao13 t37.length co13) : Value).ownBlock ∧ some k_ ≠ (u428002 : Value).ownBlock) (.slice Ao12 t38.length co12) t38) ∧ Aside0 (Kd.R Kd.string 9 w' w.heap.size (fun k_ => some k_ ≠ ((.slice Ao13 t37.length co13) : Value).ownBlock ∧ some k_ ≠ ((.slice Ao12 t38.length co12) : Value).ownBlock) u428002 x49_1) ∧ Aside0 (w'.heap[gb39]? = some (.cells #[(.slice none 0 0), (.slice none 0 0), (.slice none 0 0), .int .i64 0] 43 (0, 0))) ∧ Aside0 (w'.heap[gb47]? = some (.cells #[(.slice Ao13 t37.length co13), (.slice Ao12 t38.length co12), u428002, .int .i64 0] 43 (0, 0))) ∧ Aside0 (Below w.heap.size w w'))
 case atStart => exact ⟨(0), (([] : List ByteArray)), (.slice none 0 0), rfl, H', ⟨Nat.le_refl _⟩, ⟨by (with_reducible repeat first | apply zQ | apply zR | apply zS); exact yC (Kd.R_far (p := ⟨gb47, 3, none⟩) (Kd.R_far (p := ⟨gb47, 2, none⟩) (Kd.R_far (p := ⟨gb47, 1, none⟩) (Kd.R_far (p := ⟨gb47, 0, none⟩) (Kd.R_types HO44.out BK47.out (by decide)) (fun _ hk => hk.2) (.slice Ao13 t37.length co13)) (fun _ hk => hk.2) (.slice Ao12 t38.length co12)) (fun _ hk => hk.2) (.slice none 0 0)) (fun _ hk => hk.2) (.int .i64 0)) (fun _ hk => ⟨hk.1, (by simp [Value.ownBlock])⟩)⟩, ⟨by (with_reducible repeat first | apply zQ | apply zR | apply zS); exact yC (Kd.R_far (p := ⟨gb47, 3, none⟩) (Kd.R_far (p := ⟨gb47, 2, none⟩) (Kd.R_far (p := ⟨gb47, 1, none⟩) (Kd.R_far (p := ⟨gb47, 0, none⟩) (Kd.R_types HO46.out BK47.out (by decide)) (fun _ hk => hk.2) (.slice Ao13 t37.length co13)) (fun _ hk => hk.2) (.slice Ao12 t38.length co12)) (fun _ hk => hk.2) (.slice none 0 0)) (fun _ hk => hk.2) (.int .i64 0)) (fun _ hk => ⟨hk.1, (by simp [Value.ownBlock])⟩)⟩, ⟨by first | exact Kd.R_nil _ _ _ _ _ | exact Kd.N_nil _ _ _ _ _ | exact Kd.V_nil _ _ _ _ _ | exact Kd.Q_nil _ _ _ _ _ | exact Kd.S_nil _ _ _ _ _⟩, ⟨by (with_reducible repeat (first | refine zL ?_ _ | refine zN ?_ | refine zM ?_ _)); refine blk_far ?_ NB39_47.out _; (with_reducible repeat (first | refine zL ?_ _ | refine zN ?_ | refine zM ?_ _)); refine blk_far ?_ NB39_47.out _; (with_reducible repeat (first | refine zL ?_ _ | refine zN ?_ | refine zM ?_ _)); refine blk_far ?_ NB39_47.out _; (with_reducible repeat (first | refine zL ?_ _ | refine zN ?_ | refine zM ?_ _)); refine blk_far ?_ NB39_47.out _; (with_reducible repeat (first | refine zL ?_ _ | refine zN ?_ | refine zM ?_ _)); exact BK39.out⟩, ⟨by (with_reducible repeat (first | refine zL ?_ _ | refine zN ?_ | refine zM ?_ _)); refine blk_put (cs := #[.slice Ao13 t37.length co13, .slice Ao12 t38.length co12, .slice none 0 0, .int .i64 0]) ?_ 3 _ rfl; (with_reducible repeat (first | refine zL ?_ _ | refine zN ?_ | refine zM ?_ _)); refine blk_put (cs := #[.slice Ao13 t37.length co13, .slice Ao12 t38.length co12, .slice none 0 0, .int .i64 0]) ?_ 2 _ rfl; (with_reducible repeat (first | refine zL ?_ _ | refine zN ?_ | refine zM ?_ _)); refine blk_put (cs := #[.slice Ao13 t37.length co13, .slice none 0 0, .slice none 0 0, .int .i64 0]) ?_ 1 _ rfl; (with_reducible repeat (first | refine zL ?_ _ | refine zN ?_ | refine zM ?_ _)); refine blk_put (cs := #[.slice none 0 0, .slice none 0 0, .slice none 0 0, .int .i64 0]) ?_ 0 _ rfl; (with_reducible repeat (first | refine zL ?_ _ | refine zN ?_ | refine zM ?_ _)); exact BK47.out⟩, ⟨by repeat (first | (with_reducible first | exact HB.out | apply zH | apply zF | apply zG | refine zI ?_ GE39.out | refine zI ?_ GE47.out) | exact HB.out)⟩⟩
 case round =>
  clear H'
  try clear c2
  try clear p2
  try clear hx4
  try clear c6
  try clear hx40_0
  try clear hx40_1
  try clear hx40_2
  try clear hx41_0
  try clear hx41_1
  try clear hx41_2
  try clear hx48_0
  try clear hx48_1
  try clear hx48_2
  obtain ⟨x22_1, x49_1, u428002, rfl, HA, HK1, HO_428000, HO_428001, HO_428002, BK39, BK47, HB⟩ := hrel
  cases gk with
  | zero => exact absurd HA.out (by simp [impl_node_shown.l0])
  | succ k1 =>
   have H := HA.out; clear HA; simp only [impl_node_shown.l0] at H
   by_cases c18 : x22_1 < (a0.f2.length : Int)
   ·rw [if_pos c18] at H
    have c18b0 : decide (x22_1 < (a0.f2.length : Int)) = true := zX c18; clear c18
    by_cases c19 : 0 ≤ x22_1
    ·rw [if_pos c19] at H
     have c19b0 : decide (0 ≤ x22_1) = true := zX c19; clear c19
     by_cases c20 : x22_1 < (a0.f2.length : Int)
     ·rw [if_pos c20] at H
      have c20b0 : decide (x22_1 < (a0.f2.length : Int)) = true := zX c20; clear c20; replace H := zAF H; obtain ⟨⟨t50, t51, t52, t53⟩, A54, H⟩ := H; replace H : ((impl_Shown_digest.f k1 t50 t51 t52 t53).bind fun t55 => (if x49_1.length < 8796093022208 then (impl_node_shown.l0 k1 a0.f2 (a0.f2.length : Int) (wrap64 (x22_1 + 1)) t37 t38 (x49_1 ++ [t55]) 0) else (none))) = some (r1, r2, r3, r4) := H; have A21 := zA A54; clear A54; replace H := zAF H; obtain ⟨t55, A56, H⟩ := H; replace H : (if x49_1.length < 8796093022208 then (impl_node_shown.l0 k1 a0.f2 (a0.f2.length : Int) (wrap64 (x22_1 + 1)) t37 t38 (x49_1 ++ [t55]) 0) else (none)) = some (r1, r2, r3, r4) := H; have A22 := zA A56; clear A56
      by_cases c23 : x49_1.length < 8796093022208
      ·rw [if_pos c23] at H
       have LMc23 := zA c23; clear c23; obtain ⟨y57, hy57⟩ : ∃ y_ : List ByteArray, y_ = (x49_1 ++ [t55]) := ⟨_, rfl⟩; replace H : (impl_node_shown.l0 k1 a0.f2 (a0.f2.length : Int) (wrap64 (x22_1 + 1)) t37 t38 y57 0) = some (r1, r2, r3, r4) := by first | (rw [hy57]; with_reducible exact H) | (have H2_ := (Option.bind_some _ _).symm.trans H; rw [hy57]; with_reducible exact H2_) | (have H2_ := (Option.bind_some _ _).symm.trans H; with_reducible exact H2_) | with_reducible exact H | (rw [hy57]; exact H) | exact H
       have Ny57 := zA hy57; clear hy57; have H' := zA H; clear H; have p58 : 0 ≤ (x22_1 : Int) := zW (by first | (with_reducible assumption) | assumption); have q58 : x22_1 < (a0.f2.length : Int) := zW (by assumption); obtain ⟨ad58, e58, hx58_0⟩ := at_N74 HRn0_2.out x22_1 p58 q58; have HN58 := zA (nd_el74 HRn0_2.out x22_1 p58 q58); obtain ⟨An429_0, cn429_0, An429_1, cn429_1, An429_2, cn429_2, hsn429_0, hsn429_1, hsn429_2, hln429_0, hin429_0, hln429_1, hin429_1, hln429_2, hin429_2⟩ := at_P74 HN58.out; have HXn429_0 := zA hsn429_0; have HRn429_0 := zA hin429_0; have HCn429_0 := zA hln429_0; have HXn429_1 := zA hsn429_1; have HRn429_1 := zA hin429_1; have HCn429_1 := zA hln429_1; have HXn429_2 := zA hsn429_2; have HRn429_2 := zA hin429_2; have HCn429_2 := zA hln429_2; clear hsn429_0 hin429_0 hln429_0 hsn429_1 hin429_1 hln429_1 hsn429_2 hin429_2 hln429_2
       cases e58
       replace hx58_0 := (HB.out.cell (zB w _ hx58_0)).trans hx58_0; replace p58 := eq_true p58; replace q58 := eq_true q58
       try go_wp2
       have n0_ := zA (zS HO_428000.out); have n1_ := zA (zS HO_428001.out); have n2_ := zA (zS HO_428002.out); have n3_ := zA (zN BK39.out); have n4_ := zA (zN BK47.out); have n5_ := zA (zG HB.out); clear HO_428000 HO_428001 HO_428002 BK39 BK47 HB; have HO_428000 := n0_; have HO_428001 := n1_; have HO_428002 := n2_; have BK39 := n3_; have BK47 := n4_; have HB := n5_; clear n0_ n1_ n2_ n3_ n4_ n5_; refine start_ (n := 9) (S := fun w' => w'.cell? ⟨gb47, 0, none⟩ = some (.slice Ao13 t37.length co13) ∧ w'.cell? ⟨gb47, 1, none⟩ = some (.slice Ao12 t38.length co12) ∧ w'.cell? ⟨gb47, 2, none⟩ = some (u428002) ∧ w'.cell? ⟨gb47, 3, none⟩ = some (.int .i64 0)) (ds := [8]) (bA 9 0) (by kernel_rfl) rfl rfl ⟨(zP BK47.out 0).trans rfl, (zP BK47.out 1).trans rfl, (zP BK47.out 2).trans rfl, (zP BK47.out 3).trans rfl⟩ (fun hHeld => ?_); refine with_tabW impl_node_shown.tab5 impl_node_shown.bits5 (fun HT_ HW_ => ?_); generalize wr.drew = w24 at HO_428000 HO_428001 HO_428002 BK39 BK47 HB hHeld ⊢; refine wzP 0 26 (bA 9 1) HT_ ?_
       refine wzP 2 28 (bA 9 5) HT_ ?_
       refine wzT 1 27 (bA 9 7) HT_ HW_ hHeld ?_
       refine one_ (i := 3) (N := some 29) (bA 9 15) rfl rfl (one_of HT_.out (by kernel_rfl)) (by decide) (fun K hK => ?_); refine goes_ Try.func28 (by kernel_rfl) rfl #[.pointer (some ⟨(rd_N74 a0.f2 x22_1).adr, 0, none⟩)] (by rfl) rfl rfl (by (try simp only [zAA, zAB, zAC]); first | done | rfl) ?_
       with_reducible refine (ih k1 (by have := HK1.out; omega) (rd_N74 a0.f2 x22_1) t50 t51 t52 t53 _ ?side1 A21.out).mono ?_
       (case side1 => repeat (first | exact (k74p.K_below HB.out HN58.out) | (with_reducible refine k74p_alloc ?_ _) | (with_reducible refine k74p_drewN ?_ _) | (with_reducible refine k74p_drew ?_))); rintro e w25 ⟨v59, v61, v62, rfl, ho0, ho1, ho2, hb⟩; refine ⟨_, rfl, ?_⟩; have n0_ := zA (yC (Kd.R_told (Kd.R_told (Kd.R_told (Kd.R_old HO_428000.out hb) (Kd.R_base ho0)) (Kd.R_base ho1)) (Kd.R_base ho2)) (fun _ h_ => h_.1)); have n1_ := zA (yC (Kd.R_told (Kd.R_told (Kd.R_told (Kd.R_old HO_428001.out hb) (Kd.R_base ho0)) (Kd.R_base ho1)) (Kd.R_base ho2)) (fun _ h_ => h_.1)); have n2_ := zA (yC (Kd.R_told (Kd.R_told (Kd.R_told (Kd.R_old HO_428002.out hb) (Kd.R_base ho0)) (Kd.R_base ho1)) (Kd.R_base ho2)) (fun _ h_ => h_.1)); have n3_ := zA (Kd.R_lower (yK (yK (yK ho0 (Kd.R_lt HO_428000.out)) (Kd.R_lt HO_428001.out)) (Kd.R_lt HO_428002.out)) (zAE HB.out)); have n4_ := zA (Kd.R_lower (yK (yK (yK ho1 (Kd.R_lt HO_428000.out)) (Kd.R_lt HO_428001.out)) (Kd.R_lt HO_428002.out)) (zAE HB.out)); have n5_ := zA (Kd.R_lower (yK (yK (yK ho2 (Kd.R_lt HO_428000.out)) (Kd.R_lt HO_428001.out)) (Kd.R_lt HO_428002.out)) (zAE HB.out)); have n6_ := zA (yE BK39.out hb); have n7_ := zA (yE BK47.out hb); have n8_ := zA (zAD HB.out hb); clear HO_428000 HO_428001 HO_428002 BK39 BK47 HB; have HO_428000 := n0_; have HO_428001 := n1_; have HO_428002 := n2_; have HO63 := n3_; have HO65 := n4_; have HO66 := n5_; have BK39 := n6_; have BK47 := n7_; have HB := n8_; clear n0_ n1_ n2_ n3_ n4_ n5_ n6_ n7_ n8_; (try clear hb); (try clear ho0); (try clear ho1); (try clear ho2); obtain ⟨Ao26, co26, eo26⟩ := Kd.R_slice HO63.out; (first | subst eo26 | (injection eo26 with f1_ f2_ f3_; have f4_ := f1_.symm; have f5_ := f3_.symm; clear f1_ f2_ f3_; subst f4_; subst f5_)); obtain ⟨Ao27, co27, eo27⟩ := Kd.R_slice HO65.out; (first | subst eo27 | (injection eo27 with f1_ f2_ f3_; have f4_ := f1_.symm; have f5_ := f3_.symm; clear f1_ f2_ f3_; subst f4_; subst f5_)); obtain ⟨Ao28, co28, eo28⟩ := Kd.R_slice HO66.out; (first | subst eo28 | (injection eo28 with f1_ f2_ f3_; have f4_ := f1_.symm; have f5_ := f3_.symm; clear f1_ f2_ f3_; subst f4_; subst f5_)); refine hK.out _ _ ⟨(zP BK47.out 0).trans rfl, (zP BK47.out 1).trans rfl, (zP BK47.out 2).trans rfl, (zP BK47.out 3).trans rfl⟩ (fun hHeld => ?_); clear hK K; refine wzN 29 ?_
       refine one_ (i := 4) (N := some 30) (bA 9 31) rfl rfl (one_of HT_.out (by kernel_rfl)) (by decide) (fun K hK => ?_); refine goes_ Try.func29 (by kernel_rfl) rfl #[.agg #[.slice Ao26 t50.length co26, .slice Ao27 t51.length co27, .slice Ao28 t52.length co28, .int .i64 t53]] (by rfl) rfl rfl (by (try simp only [zAA, zAB, zAC]); first | done | rfl | (simp only [zZ, zY]; rfl)) ?_
       with_reducible refine (impl_Shown_digest.calls k1 _ _ t50 _ _ t51 _ _ t52 t53 t55 _ ?side1 ?side2 ?side3 ?side4 ?side5 ?side6 A22.out).mono ?_
       (case side1 => exact (yD HO63.out).2.2); (case side2 => exact (yD HO63.out).2.1); (case side3 => exact (yD HO65.out).2.2); (case side4 => exact (yD HO65.out).2.1); (case side5 => exact (yD HO66.out).2.2); (case side6 => exact (yD HO66.out).2.1); rintro e w29 ⟨rfl, hb⟩; refine ⟨_, rfl, ?_⟩; have n0_ := zA (Kd.R_below HO_428000.out hb); have n1_ := zA (Kd.R_below HO_428001.out hb); have n2_ := zA (Kd.R_below HO_428002.out hb); have n3_ := zA (Kd.R_below HO63.out hb); have n4_ := zA (Kd.R_below HO65.out hb); have n5_ := zA (Kd.R_below HO66.out hb); have n6_ := zA (yE BK39.out hb); have n7_ := zA (yE BK47.out hb); have n8_ := zA (zAD HB.out hb); clear HO_428000 HO_428001 HO_428002 HO63 HO65 HO66 BK39 BK47 HB; have HO_428000 := n0_; have HO_428001 := n1_; have HO_428002 := n2_; have HO63 := n3_; have HO65 := n4_; have HO66 := n5_; have BK39 := n6_; have BK47 := n7_; have HB := n8_; clear n0_ n1_ n2_ n3_ n4_ n5_ n6_ n7_ n8_; (try clear hb); refine hK.out _ _ ⟨(zP BK47.out 0).trans rfl, (zP BK47.out 1).trans rfl, (zP BK47.out 2).trans rfl, (zP BK47.out 3).trans rfl⟩ (fun hHeld => ?_); clear hK K; refine wzN 30 ?_
       refine one_ (i := 5) (N := some 31) (bA 9 63) rfl rfl (one_of HT_.out (by kernel_rfl)) (by decide) (fun K hK => ?_); refine value_ (w1 := ?_) (v := ?_) (by rfl) rfl ?_ ?_; rotate_left 2
       ·go_simp
        constructor
        ·rfl
        ·rfl
       refine hK.out _ _ ⟨(zP (zM BK47.out _) 0).trans rfl, (zP (zM BK47.out _) 1).trans rfl, (zP (zM BK47.out _) 2).trans rfl, (zP (zM BK47.out _) 3).trans rfl⟩ (fun hHeld => ?_); clear hK K; refine wzN 31 ?_
       refine one_ (i := 6) (N := some 32) (bA 9 127) rfl rfl (one_of HT_.out (by kernel_rfl)) (by decide) (fun K hK => ?_); refine Kd.R_append_step Kd.string (w0 := w) w.heap.size (by rfl) (.tmp 27) (.tmp 31) 41 9 (.string ⟨#[]⟩) 16 rfl Try.underlying41 info9 rfl (by decide) (by omega) u428002 x49_1 t55 [.string t55] (fun k_ => some k_ ≠ (.slice Ao13 t37.length co13 : Value).ownBlock ∧ some k_ ≠ (.slice Ao12 t38.length co12 : Value).ownBlock ∧ some k_ ≠ (.slice Ao26 t50.length co26 : Value).ownBlock ∧ some k_ ≠ (.slice Ao27 t51.length co27 : Value).ownBlock ∧ some k_ ≠ (.slice Ao28 t52.length co28 : Value).ownBlock) (fun _ => False) rfl rfl ?aP (fun _ hk => hk.elim) ?aF ?aO ?aB ?aS ?aL ?_; (case aP => exact rfl); (case aB => exact HB.out); (case aF => exact (fun k_ hk => ⟨Kd.fresh' (Kd.R_lt HO_428000.out) k_ hk, Kd.fresh' (Kd.R_lt HO_428001.out) k_ hk, Kd.fresh' (Kd.R_lt HO63.out) k_ hk, Kd.fresh' (Kd.R_lt HO65.out) k_ hk, Kd.fresh' (Kd.R_lt HO66.out) k_ hk⟩)); (case aO => exact (by (with_reducible repeat first | apply zQ | apply zR | apply zS); exact yC HO_428002.out (fun _ hk => ⟨hk.1.1.1.1, ⟨hk.1.1.1.2, ⟨hk.1.1.2, ⟨hk.1.2, hk.2⟩⟩⟩⟩))); (case aS => exact (zAE HB.out)); (case aL => have := LMc23.out; omega); intro v67 w30 ho hb hg hat; rw [← Ny57.out] at ho; have n0_ := zA (Kd.R_after (ok := (fun k_ => some k_ ≠ (.slice Ao12 t38.length co12 : Value).ownBlock ∧ some k_ ≠ (.slice Ao26 t50.length co26 : Value).ownBlock ∧ some k_ ≠ (.slice Ao27 t51.length co27 : Value).ownBlock ∧ some k_ ≠ (.slice Ao28 t52.length co28 : Value).ownBlock)) (by (with_reducible repeat first | apply zQ | apply zR | apply zS); exact yC HO_428000.out (fun _ hk => ⟨⟨hk.1.1.1.1, ⟨hk.1.1.2, ⟨hk.1.2, hk.2⟩⟩⟩, hk.1.1.1.2⟩)) hg hat); have n1_ := zA (Kd.R_after (ok := (fun k_ => some k_ ≠ (.slice Ao13 t37.length co13 : Value).ownBlock ∧ some k_ ≠ (.slice Ao26 t50.length co26 : Value).ownBlock ∧ some k_ ≠ (.slice Ao27 t51.length co27 : Value).ownBlock ∧ some k_ ≠ (.slice Ao28 t52.length co28 : Value).ownBlock)) (by (with_reducible repeat first | apply zQ | apply zR | apply zS); exact yC HO_428001.out (fun _ hk => ⟨⟨hk.1.1.1.1, ⟨hk.1.1.2, ⟨hk.1.2, hk.2⟩⟩⟩, hk.1.1.1.2⟩)) hg hat); have n2_ := zA (blk_grown BK39.out hg (Kd.R_ne HO_428002.out BK39.out (by decide))); have n3_ := zA (blk_grown BK47.out hg (Kd.R_ne HO_428002.out BK47.out (by decide))); have n4_ := zA (Kd.R_after (ok := (fun k_ => some k_ ≠ (.slice Ao13 t37.length co13 : Value).ownBlock ∧ some k_ ≠ (.slice Ao12 t38.length co12 : Value).ownBlock ∧ some k_ ≠ (.slice Ao27 t51.length co27 : Value).ownBlock ∧ some k_ ≠ (.slice Ao28 t52.length co28 : Value).ownBlock)) (by (with_reducible repeat first | apply zQ | apply zR | apply zS); exact yC HO63.out (fun _ hk => ⟨⟨hk.1.1.2, ⟨hk.1.2, ⟨hk.1.1.1.1, hk.1.1.1.2⟩⟩⟩, hk.2⟩)) hg hat); have n5_ := zA (Kd.R_after (ok := (fun k_ => some k_ ≠ (.slice Ao13 t37.length co13 : Value).ownBlock ∧ some k_ ≠ (.slice Ao12 t38.length co12 : Value).ownBlock ∧ some k_ ≠ (.slice Ao26 t50.length co26 : Value).ownBlock ∧ some k_ ≠ (.slice Ao28 t52.length co28 : Value).ownBlock)) (by (with_reducible repeat first | apply zQ | apply zR | apply zS); exact yC HO65.out (fun _ hk => ⟨⟨hk.1.1.2, ⟨hk.1.2, ⟨hk.1.1.1.1, hk.1.1.1.2⟩⟩⟩, hk.2⟩)) hg hat); have n6_ := zA (Kd.R_after (ok := (fun k_ => some k_ ≠ (.slice Ao13 t37.length co13 : Value).ownBlock ∧ some k_ ≠ (.slice Ao12 t38.length co12 : Value).ownBlock ∧ some k_ ≠ (.slice Ao26 t50.length co26 : Value).ownBlock ∧ some k_ ≠ (.slice Ao27 t51.length co27 : Value).ownBlock)) (by (with_reducible repeat first | apply zQ | apply zR | apply zS); exact yC HO66.out (fun _ hk => ⟨⟨hk.1.1.2, ⟨hk.1.2, ⟨hk.1.1.1.1, hk.1.1.1.2⟩⟩⟩, hk.2⟩)) hg hat); have n7_ := zA (hb); have n8_ := zA (ho); clear HO_428000 HO_428001 BK39 BK47 HO63 HO65 HO66 HB HO_428002; have HO_428000 := n0_; have HO_428001 := n1_; have BK39 := n2_; have BK47 := n3_; have HO63 := n4_; have HO65 := n5_; have HO66 := n6_; have HB := n7_; have HO68 := n8_; clear n0_ n1_ n2_ n3_ n4_ n5_ n6_ n7_ n8_ ho hb hg hat; obtain ⟨Ao31, co31, eo31⟩ := Kd.R_slice HO68.out; (first | subst eo31 | (injection eo31 with f1_ f2_ f3_; have f4_ := f1_.symm; have f5_ := f3_.symm; clear f1_ f2_ f3_; subst f4_; subst f5_)); refine hK.out _ _ ⟨(zP BK47.out 0).trans rfl, (zP BK47.out 1).trans rfl, (zP BK47.out 2).trans rfl, (zP BK47.out 3).trans rfl⟩ (fun hHeld => ?_)
       clear hK K; refine wzN 32 ?_
       refine wzP 7 33 (bA 9 255) HT_ ?_
       refine last_ (i := 8) (N := none) (bA 9 511) rfl rfl (one_of HT_.out (by kernel_rfl)) (by decide) (fun K hK => ?_); have hs32 : w30.cell? ⟨gb47, 2, none⟩ = some (u428002) := (zP BK47.out 2).trans rfl; have hfs32 := zO BK47.out 2; have hns32_0 := NB39_47.out; have hms32_0 := NB47_39.out; refine skip_ (w1 := ?_) (by rfl) rfl ?_ ?_; rotate_left
       ·go_simp
        rfl
       refine hK.out _ _ ?_; clear hK K; refine done_ (done_of HT_.out (by kernel_rfl)) ?_
       try go_wp2
       go_roundg k1
       case measure => have := HK1.out; omega
       case rel => exact ⟨(wrap64 (x22_1 + 1)), (y57), (.slice Ao31 y57.length co31), rfl, H', ⟨by have := HK1.out; omega⟩, ⟨by (with_reducible repeat first | apply zQ | apply zR | apply zS); exact yC (Kd.R_far (p := ⟨gb47, 2, none⟩) (Kd.R_types HO_428000.out BK47.out (by decide)) (fun _ hk => hk.2) (.slice Ao31 y57.length co31)) (fun _ hk => ⟨hk.1.1.1, hk.1.2⟩)⟩, ⟨by (with_reducible repeat first | apply zQ | apply zR | apply zS); exact yC (Kd.R_far (p := ⟨gb47, 2, none⟩) (Kd.R_types HO_428001.out BK47.out (by decide)) (fun _ hk => hk.2) (.slice Ao31 y57.length co31)) (fun _ hk => ⟨hk.1.1.1, hk.1.2⟩)⟩, ⟨by (with_reducible repeat first | apply zQ | apply zR | apply zS); exact yC (Kd.R_far (p := ⟨gb47, 2, none⟩) (Kd.R_types HO68.out BK47.out (by decide)) (fun _ hk => hk.2) (.slice Ao31 y57.length co31)) (fun _ hk => ⟨hk.1.1, hk.1.2.1⟩)⟩, ⟨by (with_reducible repeat (first | refine zL ?_ _ | refine zN ?_ | refine zM ?_ _)); refine blk_far ?_ NB39_47.out _; (with_reducible repeat (first | refine zL ?_ _ | refine zN ?_ | refine zM ?_ _)); exact BK39.out⟩, ⟨by (with_reducible repeat (first | refine zL ?_ _ | refine zN ?_ | refine zM ?_ _)); refine blk_put (cs := #[.slice Ao13 t37.length co13, .slice Ao12 t38.length co12, u428002, .int .i64 0]) ?_ 2 _ rfl; (with_reducible repeat (first | refine zL ?_ _ | refine zN ?_ | refine zM ?_ _)); exact BK47.out⟩, ⟨by repeat (first | (with_reducible first | exact HB.out | apply zH | apply zF | apply zG | refine zI ?_ GE39.out | refine zI ?_ GE47.out) | exact HB.out)⟩⟩
      ·rw [if_neg c23] at H
       exact absurd H (by simp)
     ·rw [if_neg c20] at H
      exact absurd H (by simp)
    ·rw [if_neg c19] at H
     exact absurd H (by simp)
   ·rw [if_neg c18] at H
    have c18b0 : decide (x22_1 < (a0.f2.length : Int)) = false := decide_eq_false c18; clear c18; simp only [Option.some.injEq, Prod.mk.injEq] at H; obtain ⟨rfl, rfl, rfl, rfl⟩ := H; have hnb33 := NB47_39.out; have hnc33 := NB39_47.out; have hcz34_0 := yL BK47.out 0 (.slice Ao13 t37.length co13) rfl; have hcz34_1 := yL BK47.out 1 (.slice Ao12 t38.length co12) rfl; have hcz34_2 := yL BK47.out 2 (u428002) rfl; have hcz34_3 := yL BK47.out 3 (.int .i64 0) rfl; have hfz34_0 := zO BK47.out 0; have hfz34_1 := zO BK47.out 1; have hfz34_2 := zO BK47.out 2; have hfz34_3 := zO BK47.out 3; have hcz35_0 := yL BK39.out 0 (.slice none 0 0) rfl; have hcz35_1 := yL BK39.out 1 (.slice none 0 0) rfl; have hcz35_2 := yL BK39.out 2 (.slice none 0 0) rfl; have hcz35_3 := yL BK39.out 3 (.int .i64 0) rfl; have hfz35_0 := zO BK39.out 0; have hfz35_1 := zO BK39.out 1; have hfz35_2 := zO BK39.out 2; have hfz35_3 := zO BK39.out 3; obtain ⟨Ao36, co36, eo36⟩ := Kd.R_slice HO_428002.out; subst eo36; go_wp2; refine bodyPost_ret (results_cell_row rfl _ _ gb39 43 #[.slice Ao13 t37.length co13, .slice Ao12 t38.length co12, .slice Ao36 x49_1.length co36, .int .i64 0] (0, 0) _ rfl (by (with_reducible repeat (first | refine zL ?_ _ | refine zN ?_ | refine zM ?_ _)); refine blk_put (cs := #[.slice Ao13 t37.length co13, .slice Ao12 t38.length co12, .slice Ao36 x49_1.length co36, .int .i64 0]) ?_ 3 _ rfl; (with_reducible repeat (first | refine zL ?_ _ | refine zN ?_ | refine zM ?_ _)); refine blk_put (cs := #[.slice Ao13 t37.length co13, .slice Ao12 t38.length co12, .slice none 0 0, .int .i64 0]) ?_ 2 _ rfl; (with_reducible repeat (first | refine zL ?_ _ | refine zN ?_ | refine zM ?_ _)); refine blk_put (cs := #[.slice Ao13 t37.length co13, .slice none 0 0, .slice none 0 0, .int .i64 0]) ?_ 1 _ rfl; (with_reducible repeat (first | refine zL ?_ _ | refine zN ?_ | refine zM ?_ _)); refine blk_put (cs := #[.slice none 0 0, .slice none 0 0, .slice none 0 0, .int .i64 0]) ?_ 0 _ rfl; (with_reducible repeat (first | refine zL ?_ _ | refine zN ?_ | refine zM ?_ _)); exact BK39.out) Try.underlying43 rfl (by kernel_rfl)) rfl ?_; exact ⟨_, _, _, by first | rfl | (simp <;> rfl) | (simp [*] <;> rfl), by (with_reducible repeat first | apply zQ | apply zR | apply zS); exact yC (Kd.R_far (p := ⟨gb39, 3, none⟩) (Kd.R_far (p := ⟨gb39, 2, none⟩) (Kd.R_far (p := ⟨gb39, 1, none⟩) (Kd.R_far (p := ⟨gb39, 0, none⟩) (Kd.R_types HO_428000.out BK39.out (by decide)) (fun _ hk => hk.2) (.slice Ao13 t37.length co13)) (fun _ hk => hk.2) (.slice Ao12 t38.length co12)) (fun _ hk => hk.2) (.slice Ao36 x49_1.length co36)) (fun _ hk => hk.2) (.int .i64 0)) (fun _ hk => ⟨hk.1.1, hk.1.2⟩), by (with_reducible repeat first | apply zQ | apply zR | apply zS); exact yC (Kd.R_far (p := ⟨gb39, 3, none⟩) (Kd.R_far (p := ⟨gb39, 2, none⟩) (Kd.R_far (p := ⟨gb39, 1, none⟩) (Kd.R_far (p := ⟨gb39, 0, none⟩) (Kd.R_types HO_428001.out BK39.out (by decide)) (fun _ hk => hk.2) (.slice Ao13 t37.length co13)) (fun _ hk => hk.2) (.slice Ao12 t38.length co12)) (fun _ hk => hk.2) (.slice Ao36 x49_1.length co36)) (fun _ hk => hk.2) (.int .i64 0)) (fun _ hk => ⟨hk.1.1, hk.1.2⟩), by (with_reducible repeat first | apply zQ | apply zR | apply zS); exact yC (Kd.R_far (p := ⟨gb39, 3, none⟩) (Kd.R_far (p := ⟨gb39, 2, none⟩) (Kd.R_far (p := ⟨gb39, 1, none⟩) (Kd.R_far (p := ⟨gb39, 0, none⟩) (Kd.R_types HO_428002.out BK39.out (by decide)) (fun _ hk => hk.2) (.slice Ao13 t37.length co13)) (fun _ hk => hk.2) (.slice Ao12 t38.length co12)) (fun _ hk => hk.2) (.slice Ao36 x49_1.length co36)) (fun _ hk => hk.2) (.int .i64 0)) (fun _ hk => ⟨hk.1.1, hk.1.2⟩), by repeat (first | (with_reducible first | exact HB.out | apply zH | apply zF | apply zG | refine zI ?_ GE39.out | refine zI ?_ GE47.out) | exact HB.out)⟩
def cmp_isNaN_string.f (a0 : ByteArray) : Option (Bool) := some (a0.toList != a0.toList)
theorem cmp_isNaN_string.calls (a0 : ByteArray) (r : Bool) (w : World) (h : cmp_isNaN_string.f a0 = some r) :
  Calls Try.prog 97 #[.string a0] w fun e w' => e = .returned (.bool r) ∧ Drawn0 w w' := by
 have H : (some (a0.toList != a0.toList)) = some r := h; clear h; obtain rfl := yM H; go_enter Try.func97, Try.ntmps97; go_wp2; go_ret; exact ⟨by first | rfl | (simp; done) | (simp [*]; done) | (simp [bne]; done), by repeat (first | exact Drawn0.refl _ | apply Drawn0.step)⟩
def cmp_Less_string.f (a0 : ByteArray) (a1 : ByteArray) : Option (Bool) := (cmp_isNaN_string.f a0).bind fun t10 => (if t10 = true then ((cmp_isNaN_string.f a1).bind fun t11 => (if t11 = true then (some (Op.bytesLess a0.toList a1.toList)) else (some true))) else (some (Op.bytesLess a0.toList a1.toList)))
theorem cmp_Less_string.calls (a0 : ByteArray) (a1 : ByteArray) (r : Bool) (w : World) (h : cmp_Less_string.f a0 a1 = some r) :
  Calls Try.prog 92 #[.string a0, .string a1] w fun e w' => e = .returned (.bool r) ∧ Drawn0 w w' := by
 have H : ((cmp_isNaN_string.f a0).bind fun t10 => (if t10 = true then ((cmp_isNaN_string.f a1).bind fun t11 => (if t11 = true then (some (Op.bytesLess a0.toList a1.toList)) else (some true))) else (some (Op.bytesLess a0.toList a1.toList)))) = some r := h; clear h; replace H := zAF H; obtain ⟨t10, A30, H⟩ := H; replace H : (if t10 = true then ((cmp_isNaN_string.f a1).bind fun t11 => (if t11 = true then (some (Op.bytesLess a0.toList a1.toList)) else (some true))) else (some (Op.bytesLess a0.toList a1.toList))) = some r := H; have A3 := zA A30; clear A30
 by_cases c4 : t10 = true
 ·subst c4
  have H1 : ((cmp_isNaN_string.f a1).bind fun t11 => (if t11 = true then (some (Op.bytesLess a0.toList a1.toList)) else (some true))) = some r := by rw [if_pos rfl] at H; exact H
  clear H; have H := H1; clear H1; replace H := zAF H; obtain ⟨t11, A50, H⟩ := H; replace H : (if t11 = true then (some (Op.bytesLess a0.toList a1.toList)) else (some true)) = some r := H; have A5 := zA A50; clear A50
  by_cases c6 : t11 = true
  ·subst c6
   have H1 : (some (Op.bytesLess a0.toList a1.toList)) = some r := by rw [if_pos rfl] at H; exact H
   clear H; have H := H1; clear H1; obtain rfl := yM H; go_enter Try.func92, Try.ntmps92; go_wp2_with (first | ((with_reducible refine yB (f := 97) rfl ?_); refine goesL_ (some 6) rfl rfl Try.func97 (by kernel_rfl) rfl #[.string a0] rfl (by (try simp only [zAA, zAB, zAC]); first | done | rfl) ?_; (with_reducible refine (cmp_isNaN_string.calls a0 true _ A3.out).mono ?_); rintro e w' ⟨rfl, ⟨nd, rfl⟩⟩; refine ⟨_, rfl, ?_⟩) | (go_at_call 97; (with_reducible refine (cmp_isNaN_string.calls a1 true _ A5.out).mono ?_); rintro e w' ⟨rfl, ⟨nd, rfl⟩⟩)); go_ret; exact ⟨by first | rfl | (simp; done) | (simp [*]; done) | (simp [bne]; done), by repeat (first | exact Drawn0.refl _ | apply Drawn0.step)⟩
  ·replace c6 := yO c6
   subst c6; have H1 : (some true) = some r := by rw [if_neg (show ¬ (false = true) by decide)] at H; exact H
   clear H; have H := H1; clear H1; obtain rfl := yM H; go_enter Try.func92, Try.ntmps92; go_wp2_with (first | ((with_reducible refine yB (f := 97) rfl ?_); refine goesL_ (some 6) rfl rfl Try.func97 (by kernel_rfl) rfl #[.string a0] rfl (by (try simp only [zAA, zAB, zAC]); first | done | rfl) ?_; (with_reducible refine (cmp_isNaN_string.calls a0 true _ A3.out).mono ?_); rintro e w' ⟨rfl, ⟨nd, rfl⟩⟩; refine ⟨_, rfl, ?_⟩) | (go_at_call 97; (with_reducible refine (cmp_isNaN_string.calls a1 false _ A5.out).mono ?_); rintro e w' ⟨rfl, ⟨nd, rfl⟩⟩)); go_ret; exact ⟨by first | rfl | (simp; done) | (simp [*]; done) | (simp [bne]; done), by repeat (first | exact Drawn0.refl _ | apply Drawn0.step)⟩
 ·replace c4 := yO c4
  subst c4; have H1 : (some (Op.bytesLess a0.toList a1.toList)) = some r := by rw [if_neg (show ¬ (false = true) by decide)] at H; exact H
  clear H; have H := H1; clear H1; obtain rfl := yM H; go_enter Try.func92, Try.ntmps92; go_wp2_with (first | ((with_reducible refine yB (f := 97) rfl ?_); refine goesL_ (some 6) rfl rfl Try.func97 (by kernel_rfl) rfl #[.string a0] rfl (by (try simp only [zAA, zAB, zAC]); first | done | rfl) ?_; (with_reducible refine (cmp_isNaN_string.calls a0 false _ A3.out).mono ?_); rintro e w' ⟨rfl, ⟨nd, rfl⟩⟩; refine ⟨_, rfl, ?_⟩)); go_ret; exact ⟨by first | rfl | (simp; done) | (simp [*]; done) | (simp [bne]; done), by repeat (first | exact Drawn0.refl _ | apply Drawn0.step)⟩
def slices_isNaN_string.f (a0 : ByteArray) : Option (Bool) := some (a0.toList != a0.toList)
theorem slices_isNaN_string.calls (a0 : ByteArray) (r : Bool) (w : World) (h : slices_isNaN_string.f a0 = some r) :
  Calls Try.prog 93 #[.string a0] w fun e w' => e = .returned (.bool r) ∧ Drawn0 w w' := by
 have H : (some (a0.toList != a0.toList)) = some r := h; clear h; obtain rfl := yM H; go_enter Try.func93, Try.ntmps93; go_wp2; go_ret; exact ⟨by first | rfl | (simp; done) | (simp [*]; done) | (simp [bne]; done), by repeat (first | exact Drawn0.refl _ | apply Drawn0.step)⟩
def slices_BinarySearch_string_string.l0 : Nat → List ByteArray → ByteArray → Int → Int → Int → Option (Int × Bool)
 | 0, _, _, _, _, _ => none
 | k + 1, x0, x1, x6, x7, x8 => if x7 < x8 then (if 0 ≤ (wrap64 ((IntKind.u64.wrap (wrap64 (x7 + x8))) / 2)) then (if (wrap64 ((IntKind.u64.wrap (wrap64 (x7 + x8))) / 2)) < (x0.length : Int) then ((cmp_Less_string.f (rdOf ByteArray.empty x0 (wrap64 ((IntKind.u64.wrap (wrap64 (x7 + x8))) / 2))) x1).bind fun t10 => (if t10 = true then (slices_BinarySearch_string_string.l0 k x0 x1 x6 (wrap64 ((wrap64 ((IntKind.u64.wrap (wrap64 (x7 + x8))) / 2)) + 1)) x8) else (slices_BinarySearch_string_string.l0 k x0 x1 x6 x7 (wrap64 ((IntKind.u64.wrap (wrap64 (x7 + x8))) / 2))))) else (none)) else (none)) else (if x7 < x6 then (if 0 ≤ x7 then (if x7 < (x0.length : Int) then (if (rdOf ByteArray.empty x0 x7).toList = x1.toList then (some (x7, true)) else ((slices_isNaN_string.f (rdOf ByteArray.empty x0 x7)).bind fun t11 => (if t11 = true then ((slices_isNaN_string.f x1).bind fun t12 => (some (x7, t12))) else (some (x7, false))))) else (none)) else (none)) else (some (x7, false)))
def slices_BinarySearch_string_string.f (k : Nat) (l0 : List ByteArray) (a1 : ByteArray) : Option (Int × Bool) := slices_BinarySearch_string_string.l0 k l0 a1 (l0.length : Int) 0 (l0.length : Int)
theorem slices_BinarySearch_string_string.calls (k : Nat) (A0 : Option Addr) (c0 : Nat) (l0 : List ByteArray) (a1 : ByteArray) (r1 : Int) (r2 : Bool) (w : World) (hr0 : Kd.C Kd.string w A0 l0.length l0) (hc0 : l0.length ≤ c0) (h : slices_BinarySearch_string_string.f k l0 a1 = some (r1, r2)) :
  Calls Try.prog 72 #[.slice A0 l0.length c0, .string a1] w fun e w' => e = .returned (.tuple #[.int .i64 r1, .bool r2]) ∧ Drawn0 w w' := by
 have HR0 := zA hr0; have HC0 := zA hc0; clear hr0 hc0; have H : (slices_BinarySearch_string_string.l0 k l0 a1 (l0.length : Int) 0 (l0.length : Int)) = some (r1, r2) := h; clear h; have H' := zA H; clear H; go_enter Try.func72, Try.ntmps72; go_wp2; go_loopg [7, 8] k (fun kq v7 v8 w' => ∃ (x7_1 : Int) (x8_1 : Int), v7 = .int .i64 x7_1 ∧ v8 = .int .i64 x8_1 ∧ Aside0 (slices_BinarySearch_string_string.l0 kq l0 a1 (l0.length : Int) x7_1 x8_1 = some (r1, r2)) ∧ Aside0 (kq ≤ k) ∧ Drawn0 w w')
 case atStart => exact ⟨(0), ((l0.length : Int)), (by first | rfl | (simp; done) | (simp [*]; done) | (simp [bne]; done)), (by first | rfl | (simp; done) | (simp [*]; done) | (simp [bne]; done)), H', ⟨Nat.le_refl _⟩, by repeat (first | exact Drawn0.refl _ | apply Drawn0.step)⟩
 case round =>
  clear H'
  try clear p2
  obtain ⟨x7_1, x8_1, rfl, rfl, HA, HK1, ⟨m1, rfl⟩⟩ := hrel
  cases gk with
  | zero => exact absurd HA.out (by simp [slices_BinarySearch_string_string.l0])
  | succ k1 =>
   have H := HA.out; clear HA; simp only [slices_BinarySearch_string_string.l0] at H
   by_cases c3 : x7_1 < x8_1
   ·rw [if_pos c3] at H
    have c3b0 : decide (x7_1 < x8_1) = true := zX c3; clear c3; obtain ⟨ji4, hji4⟩ : ∃ j_ : Int, (wrap64 ((IntKind.u64.wrap (wrap64 (x7_1 + x8_1))) / 2)) = j_ := ⟨_, rfl⟩; replace H : (if 0 ≤ (ji4) then (if (ji4) < (l0.length : Int) then ((cmp_Less_string.f (rdOf ByteArray.empty l0 (ji4)) a1).bind fun t16 => (if t16 = true then (slices_BinarySearch_string_string.l0 k1 l0 a1 (l0.length : Int) (wrap64 ((ji4) + 1)) x8_1) else (slices_BinarySearch_string_string.l0 k1 l0 a1 (l0.length : Int) x7_1 ji4))) else (none)) else (none)) = some (r1, r2) := by first | (rw [hji4] at H; exact H) | (simp only [hji4] at H ⊢; exact H)
    have hji4w : (IntKind.i64.wrap ((IntKind.u64.wrap (wrap64 (x7_1 + x8_1))) / 2)) = ji4 := (i64_w _).trans hji4
    by_cases c5 : 0 ≤ (ji4)
    ·rw [if_pos c5] at H
     have c5b0 : decide (0 ≤ (ji4)) = true := zX c5; clear c5
     by_cases c6 : (ji4) < (l0.length : Int)
     ·rw [if_pos c6] at H
      have c6b0 : decide ((ji4) < (l0.length : Int)) = true := zX c6; clear c6; replace H := zAF H; obtain ⟨t16, A70, H⟩ := H; replace H : (if t16 = true then (slices_BinarySearch_string_string.l0 k1 l0 a1 (l0.length : Int) (wrap64 ((ji4) + 1)) x8_1) else (slices_BinarySearch_string_string.l0 k1 l0 a1 (l0.length : Int) x7_1 ji4)) = some (r1, r2) := H; have A7 := zA A70; clear A70
      by_cases c8 : t16 = true
      ·subst c8
       have H1 : (slices_BinarySearch_string_string.l0 k1 l0 a1 (l0.length : Int) (wrap64 ((ji4) + 1)) x8_1) = some (r1, r2) := by rw [if_pos rfl] at H; exact H
       clear H; have H := H1; clear H1; have H' := zA H; clear H; have p17 : 0 ≤ ((ji4) : Int) := zW (by first | (with_reducible assumption) | assumption); have q17 : (ji4) < (l0.length : Int) := zW (by first | (with_reducible assumption) | assumption); obtain ⟨ad17, e17, hx17_0⟩ := Kd.at_string HR0.out (ji4) p17 q17
       cases e17
       replace p17 := eq_true p17; replace q17 := eq_true q17; go_wp2_with (first | ((with_reducible refine yB (f := 92) rfl ?_); refine goesL_ (some 27) rfl rfl Try.func92 (by kernel_rfl) rfl #[.string (rdOf ByteArray.empty l0 (ji4)), .string a1] rfl (by (try simp only [zAA, zAB, zAC]); first | done | (simp only [hji4]; rfl) | rfl | (simp only [zZ, zY]; rfl)) ?_; (with_reducible refine (cmp_Less_string.calls (rdOf ByteArray.empty l0 (ji4)) a1 true _ A7.out).mono ?_); rintro e w' ⟨rfl, ⟨nd, rfl⟩⟩; refine ⟨_, rfl, ?_⟩)); go_roundg k1
       case measure => have := HK1.out; omega
       case rel => exact ⟨(wrap64 ((ji4) + 1)), (x8_1), (by first | rfl | (simp; done) | (simp only [← hji4] <;> (first | rfl | simp)) | (simp [*]; done)), (by first | rfl | (simp; done) | (simp [*]; done) | (simp [bne]; done)), ⟨by first | exact H'.out | (rw [hji4]; exact H'.out) | (simp only [hji4]; exact H'.out)⟩, ⟨by have := HK1.out; omega⟩, by repeat (first | exact Drawn0.refl _ | apply Drawn0.step)⟩
      ·replace c8 := yO c8
       subst c8; have H1 : (slices_BinarySearch_string_string.l0 k1 l0 a1 (l0.length : Int) x7_1 ji4) = some (r1, r2) := by rw [if_neg (show ¬ (false = true) by decide)] at H; exact H
       clear H; have H := H1; clear H1; have H' := zA H; clear H; have p17 : 0 ≤ ((ji4) : Int) := zW (by first | (with_reducible assumption) | assumption); have q17 : (ji4) < (l0.length : Int) := zW (by first | (with_reducible assumption) | assumption); obtain ⟨ad17, e17, hx17_0⟩ := Kd.at_string HR0.out (ji4) p17 q17
       cases e17
       replace p17 := eq_true p17; replace q17 := eq_true q17; go_wp2_with (first | ((with_reducible refine yB (f := 92) rfl ?_); refine goesL_ (some 27) rfl rfl Try.func92 (by kernel_rfl) rfl #[.string (rdOf ByteArray.empty l0 (ji4)), .string a1] rfl (by (try simp only [zAA, zAB, zAC]); first | done | (simp only [hji4]; rfl) | rfl | (simp only [zZ, zY]; rfl)) ?_; (with_reducible refine (cmp_Less_string.calls (rdOf ByteArray.empty l0 (ji4)) a1 false _ A7.out).mono ?_); rintro e w' ⟨rfl, ⟨nd, rfl⟩⟩; refine ⟨_, rfl, ?_⟩)); go_roundg k1
       case measure => have := HK1.out; omega
       case rel => exact ⟨(x7_1), (ji4), (by first | rfl | (simp; done) | (simp [*]; done) | (simp [bne]; done)), (by first | rfl | (simp; done) | (simp only [← hji4] <;> (first | rfl | simp)) | (simp [*]; done)), ⟨by first | exact H'.out | (rw [hji4]; exact H'.out) | (simp only [hji4]; exact H'.out)⟩, ⟨by have := HK1.out; omega⟩, by repeat (first | exact Drawn0.refl _ | apply Drawn0.step)⟩
     ·rw [if_neg c6] at H
      exact absurd H (by simp)
    ·rw [if_neg c5] at H
     exact absurd H (by simp)
   ·rw [if_neg c3] at H
    have c3b0 : decide (x7_1 < x8_1) = false := decide_eq_false c3; clear c3
    by_cases c9 : x7_1 < (l0.length : Int)
    ·rw [if_pos c9] at H
     have c9b0 : decide (x7_1 < (l0.length : Int)) = true := zX c9; clear c9
     by_cases c10 : 0 ≤ x7_1
     ·rw [if_pos c10] at H
      have c10b0 : decide (0 ≤ x7_1) = true := zX c10; clear c10
      by_cases c11 : x7_1 < (l0.length : Int)
      ·rw [if_pos c11] at H
       have c11b0 : decide (x7_1 < (l0.length : Int)) = true := zX c11; clear c11
       by_cases c12 : (rdOf ByteArray.empty l0 x7_1).toList = a1.toList
       ·rw [if_pos c12] at H
        have c12b0 : ((rdOf ByteArray.empty l0 x7_1).toList == a1.toList) = true := beq_iff_eq.mpr c12; have c12b1 : ((rdOf ByteArray.empty l0 x7_1).toList != a1.toList) = false := bne_eq_false_iff_eq.mpr c12; clear c12; simp only [Option.some.injEq, Prod.mk.injEq] at H; obtain ⟨rfl, rfl⟩ := H; have p18 : 0 ≤ (x7_1 : Int) := zW (by first | (with_reducible assumption) | assumption); have q18 : x7_1 < (l0.length : Int) := zW (by first | (with_reducible assumption) | assumption); obtain ⟨ad18, e18, hx18_0⟩ := Kd.at_string HR0.out x7_1 p18 q18
        cases e18
        replace p18 := eq_true p18; replace q18 := eq_true q18; go_wp2; go_ret2; exact ⟨by first | rfl | (simp; done) | (simp [*]; done) | (simp [bne]; done), by repeat (first | exact Drawn0.refl _ | apply Drawn0.step)⟩
       ·rw [if_neg c12] at H
        have c12b0 : ((rdOf ByteArray.empty l0 x7_1).toList == a1.toList) = false := beq_eq_false_iff_ne.mpr c12; have c12b1 : ((rdOf ByteArray.empty l0 x7_1).toList != a1.toList) = true := bne_iff_ne.mpr c12; replace H := zAF H; obtain ⟨t19, A20, H⟩ := H; replace H : (if t19 = true then ((slices_isNaN_string.f a1).bind fun t21 => (some (x7_1, t21))) else (some (x7_1, false))) = some (r1, r2) := H; have A13 := zA A20; clear A20
        by_cases c14 : t19 = true
        ·subst c14
         have H1 : ((slices_isNaN_string.f a1).bind fun t21 => (some (x7_1, t21))) = some (r1, r2) := by rw [if_pos rfl] at H; exact H
         clear H; have H := H1; clear H1; replace H := zAF H; obtain ⟨t21, A22, H⟩ := H; replace H : (some (x7_1, t21)) = some (r1, r2) := H; have A15 := zA A22; clear A22; simp only [Option.some.injEq, Prod.mk.injEq] at H; obtain ⟨rfl, rfl⟩ := H; have p18 : 0 ≤ (x7_1 : Int) := zW (by first | (with_reducible assumption) | assumption); have q18 : x7_1 < (l0.length : Int) := zW (by first | (with_reducible assumption) | assumption); obtain ⟨ad18, e18, hx18_0⟩ := Kd.at_string HR0.out x7_1 p18 q18
         cases e18
         replace p18 := eq_true p18; replace q18 := eq_true q18; have p23 : 0 ≤ (x7_1 : Int) := zW (by first | (with_reducible assumption) | assumption); have q23 : x7_1 < (l0.length : Int) := zW (by first | (with_reducible assumption) | assumption); obtain ⟨ad23, e23, hx23_0⟩ := Kd.at_string HR0.out x7_1 p23 q23; obtain rfl : ad18 = ad23 := (by injection e23); replace p23 := eq_true p23; replace q23 := eq_true q23; go_wp2_with (first | (go_at_call 93; (with_reducible refine (slices_isNaN_string.calls (rdOf ByteArray.empty l0 x7_1) true _ A13.out).mono ?_); rintro e w' ⟨rfl, ⟨nd, rfl⟩⟩) | (go_at_call 93; (with_reducible refine (slices_isNaN_string.calls a1 t21 _ A15.out).mono ?_); rintro e w' ⟨rfl, ⟨nd, rfl⟩⟩)); go_ret2; exact ⟨by first | rfl | (simp; done) | (simp [*]; done) | (simp [bne]; done), by repeat (first | exact Drawn0.refl _ | apply Drawn0.step)⟩
        ·replace c14 := yO c14
         subst c14; have H1 : (some (x7_1, false)) = some (r1, r2) := by rw [if_neg (show ¬ (false = true) by decide)] at H; exact H
         clear H; have H := H1; clear H1; simp only [Option.some.injEq, Prod.mk.injEq] at H; obtain ⟨rfl, rfl⟩ := H; have p18 : 0 ≤ (x7_1 : Int) := zW (by first | (with_reducible assumption) | assumption); have q18 : x7_1 < (l0.length : Int) := zW (by first | (with_reducible assumption) | assumption); obtain ⟨ad18, e18, hx18_0⟩ := Kd.at_string HR0.out x7_1 p18 q18
         cases e18
         replace p18 := eq_true p18; replace q18 := eq_true q18; have p23 : 0 ≤ (x7_1 : Int) := zW (by first | (with_reducible assumption) | assumption); have q23 : x7_1 < (l0.length : Int) := zW (by first | (with_reducible assumption) | assumption); obtain ⟨ad23, e23, hx23_0⟩ := Kd.at_string HR0.out x7_1 p23 q23; obtain rfl : ad18 = ad23 := (by injection e23); replace p23 := eq_true p23; replace q23 := eq_true q23; go_wp2_with (first | (go_at_call 93; (with_reducible refine (slices_isNaN_string.calls (rdOf ByteArray.empty l0 x7_1) false _ A13.out).mono ?_); rintro e w' ⟨rfl, ⟨nd, rfl⟩⟩)); go_ret2; exact ⟨by first | rfl | (simp; done) | (simp [*]; done) | (simp [bne]; done), by repeat (first | exact Drawn0.refl _ | apply Drawn0.step)⟩
      ·rw [if_neg c11] at H
       exact absurd H (by simp)
     ·rw [if_neg c10] at H
      exact absurd H (by simp)
    ·rw [if_neg c9] at H
     have c9b0 : decide (x7_1 < (l0.length : Int)) = false := decide_eq_false c9; clear c9; simp only [Option.some.injEq, Prod.mk.injEq] at H; obtain ⟨rfl, rfl⟩ := H; go_wp2; go_ret2; exact ⟨by first | rfl | (simp; done) | (simp [*]; done) | (simp [bne]; done), by repeat (first | exact Drawn0.refl _ | apply Drawn0.step)⟩
def impl_less.f (k : Nat) (l0 : List ByteArray) (a1 : ByteArray) : Option (Int) := (slices_BinarySearch_string_string.f k l0 a1).bind fun bt10 => (some bt10.1)
theorem impl_less.calls (k : Nat) (A0 : Option Addr) (c0 : Nat) (l0 : List ByteArray) (a1 : ByteArray) (r : Int) (w : World) (hr0 : Kd.C Kd.string w A0 l0.length l0) (hc0 : l0.length ≤ c0) (h : impl_less.f k l0 a1 = some r) :
  Calls Try.prog 34 #[.slice A0 l0.length c0, .string a1] w fun e w' => e = .returned (.int .i64 r) ∧ Drawn0 w w' := by
 have HR0 := zA hr0; have HC0 := zA hc0; clear hr0 hc0; have H : ((slices_BinarySearch_string_string.f k l0 a1).bind fun bt10 => (some bt10.1)) = some r := h; clear h; replace H := zAF H; obtain ⟨⟨t10, t11⟩, A30, H⟩ := H; replace H : (some t10) = some r := H; have A3 := zA A30; clear A30; obtain rfl := yM H; go_enter Try.func34, Try.ntmps34; go_wp2_with (first | ((with_reducible refine yB (f := 72) rfl ?_); refine goesL_ (some 10) rfl rfl Try.func72 (by kernel_rfl) rfl #[.slice A0 l0.length c0, .string a1] rfl (by (try simp only [zAA, zAB, zAC]); first | done | rfl | (simp only [zZ, zY]; rfl)) ?_; (with_reducible refine (slices_BinarySearch_string_string.calls k _ _ l0 a1 t10 t11 _ ?side1 ?side2 A3.out).mono ?_); (case side1 => repeat (first | exact HR0.out | (with_reducible first | refine zT ?_ _ | refine zU ?_ _ | refine zV ?_))); (case side2 => exact HC0.out); rintro e w' ⟨rfl, ⟨nd, rfl⟩⟩; refine ⟨_, rfl, ?_⟩)); go_ret; exact ⟨by first | rfl | (simp; done) | (simp [*]; done) | (simp [bne]; done), by repeat (first | exact Drawn0.refl _ | apply Drawn0.step)⟩
def impl_hasAt.f (l0 : List ByteArray) (a1 : Int) (a2 : ByteArray) : Option (Bool) := if a1 < (l0.length : Int) then (if 0 ≤ a1 then (some ((rdOf ByteArray.empty l0 a1).toList == a2.toList)) else (none)) else (some false)
theorem impl_hasAt.calls (A0 : Option Addr) (c0 : Nat) (l0 : List ByteArray) (a1 : Int) (a2 : ByteArray) (r : Bool) (w : World) (hr0 : Kd.C Kd.string w A0 l0.length l0) (hc0 : l0.length ≤ c0) (h : impl_hasAt.f l0 a1 a2 = some r) :
  Calls Try.prog 36 #[.slice A0 l0.length c0, .int .i64 a1, .string a2] w fun e w' => e = .returned (.bool r) ∧ Drawn0 w w' := by
 have HR0 := zA hr0; have HC0 := zA hc0; clear hr0 hc0; have H : (if a1 < (l0.length : Int) then (if 0 ≤ a1 then (some ((rdOf ByteArray.empty l0 a1).toList == a2.toList)) else (none)) else (some false)) = some r := h; clear h
 by_cases c4 : a1 < (l0.length : Int)
 ·rw [if_pos c4] at H
  have c4b0 : decide (a1 < (l0.length : Int)) = true := zX c4; clear c4
  by_cases c5 : 0 ≤ a1
  ·rw [if_pos c5] at H
   have c5b0 : decide (0 ≤ a1) = true := zX c5; clear c5; obtain rfl := yM H; have p10 : 0 ≤ (a1 : Int) := zW (by first | (with_reducible assumption) | assumption); have q10 : a1 < (l0.length : Int) := zW (by first | (with_reducible assumption) | assumption); obtain ⟨ad10, e10, hx10_0⟩ := Kd.at_string HR0.out a1 p10 q10
   cases e10
   replace p10 := eq_true p10; replace q10 := eq_true q10; go_enter Try.func36, Try.ntmps36; go_wp2; go_ret; exact ⟨by first | rfl | (simp; done) | (simp [*]; done) | (simp [bne]; done), by repeat (first | exact Drawn0.refl _ | apply Drawn0.step)⟩
  ·rw [if_neg c5] at H
   exact absurd H (by simp)
 ·rw [if_neg c4] at H
  have c4b0 : decide (a1 < (l0.length : Int)) = false := decide_eq_false c4; clear c4; obtain rfl := yM H; go_enter Try.func36, Try.ntmps36; go_wp2; go_ret; exact ⟨by first | rfl | (simp; done) | (simp [*]; done) | (simp [bne]; done), by repeat (first | exact Drawn0.refl _ | apply Drawn0.step)⟩
def laws_eqShown.f (k : Nat) (l0_0 : List ByteArray) (l0_1 : List ByteArray) (l0_2 : List ByteArray) (a0_3 : Int) (l1_0 : List ByteArray) (l1_1 : List ByteArray) (l1_2 : List ByteArray) (a1_3 : Int) : Option (Bool) := (laws_eqStringS.f k l0_0 l1_0).bind fun t10 => (if t10 = true then ((laws_eqStringS.f k l0_1 l1_1).bind fun t11 => (if t11 = true then ((laws_eqStringS.f k l0_2 l1_2).bind fun t12 => (if t12 = true then (if a0_3 = a1_3 then (some true) else (some false)) else (some false))) else (some false))) else (some false))
theorem laws_eqShown.calls (k : Nat) (A0_0 : Option Addr) (c0_0 : Nat) (l0_0 : List ByteArray) (A0_1 : Option Addr) (c0_1 : Nat) (l0_1 : List ByteArray) (A0_2 : Option Addr) (c0_2 : Nat) (l0_2 : List ByteArray) (a0_3 : Int) (A1_0 : Option Addr) (c1_0 : Nat) (l1_0 : List ByteArray) (A1_1 : Option Addr) (c1_1 : Nat) (l1_1 : List ByteArray) (A1_2 : Option Addr) (c1_2 : Nat) (l1_2 : List ByteArray) (a1_3 : Int) (r : Bool) (w : World) (hr0_0 : Kd.C Kd.string w A0_0 l0_0.length l0_0) (hc0_0 : l0_0.length ≤ c0_0) (hr0_1 : Kd.C Kd.string w A0_1 l0_1.length l0_1) (hc0_1 : l0_1.length ≤ c0_1) (hr0_2 : Kd.C Kd.string w A0_2 l0_2.length l0_2) (hc0_2 : l0_2.length ≤ c0_2) (hr1_0 : Kd.C Kd.string w A1_0 l1_0.length l1_0) (hc1_0 : l1_0.length ≤ c1_0) (hr1_1 : Kd.C Kd.string w A1_1 l1_1.length l1_1) (hc1_1 : l1_1.length ≤ c1_1) (hr1_2 : Kd.C Kd.string w A1_2 l1_2.length l1_2) (hc1_2 : l1_2.length ≤ c1_2) (h : laws_eqShown.f k l0_0 l0_1 l0_2 a0_3 l1_0 l1_1 l1_2 a1_3 = some r) (hr_ : Aside0 (r = true)) :
  Calls Try.prog 37 #[.agg #[.slice A0_0 l0_0.length c0_0, .slice A0_1 l0_1.length c0_1, .slice A0_2 l0_2.length c0_2, .int .i64 a0_3], .agg #[.slice A1_0 l1_0.length c1_0, .slice A1_1 l1_1.length c1_1, .slice A1_2 l1_2.length c1_2, .int .i64 a1_3]] w fun e w' => e = .returned (.bool r) ∧ Below w.heap.size w w' := by
 have hu43 := Try.underlying43; have HR0_0 := zA hr0_0; have HC0_0 := zA hc0_0; clear hr0_0 hc0_0; have HR0_1 := zA hr0_1; have HC0_1 := zA hc0_1; clear hr0_1 hc0_1; have HR0_2 := zA hr0_2; have HC0_2 := zA hc0_2; clear hr0_2 hc0_2; have HR1_0 := zA hr1_0; have HC1_0 := zA hc1_0; clear hr1_0 hc1_0; have HR1_1 := zA hr1_1; have HC1_1 := zA hc1_1; clear hr1_1 hc1_1; have HR1_2 := zA hr1_2; have HC1_2 := zA hc1_2; clear hr1_2 hc1_2; have HB := zA (Below.refl w.heap.size w); have H : ((laws_eqStringS.f k l0_0 l1_0).bind fun t15 => (if t15 = true then ((laws_eqStringS.f k l0_1 l1_1).bind fun t16 => (if t16 = true then ((laws_eqStringS.f k l0_2 l1_2).bind fun t17 => (if t17 = true then (if a0_3 = a1_3 then (some true) else (some false)) else (some false))) else (some false))) else (some false))) = some r := h; clear h; replace H := zAF H; obtain ⟨t15, A30, H⟩ := H; replace H : (if t15 = true then ((laws_eqStringS.f k l0_1 l1_1).bind fun t16 => (if t16 = true then ((laws_eqStringS.f k l0_2 l1_2).bind fun t17 => (if t17 = true then (if a0_3 = a1_3 then (some true) else (some false)) else (some false))) else (some false))) else (some false)) = some r := H; have A3 := zA A30; clear A30
 by_cases c4 : t15 = true
 ·subst c4
  have H1 : ((laws_eqStringS.f k l0_1 l1_1).bind fun t16 => (if t16 = true then ((laws_eqStringS.f k l0_2 l1_2).bind fun t17 => (if t17 = true then (if a0_3 = a1_3 then (some true) else (some false)) else (some false))) else (some false))) = some r := by rw [if_pos rfl] at H; exact H
  clear H; have H := H1; clear H1; replace H := zAF H; obtain ⟨t16, A50, H⟩ := H; replace H : (if t16 = true then ((laws_eqStringS.f k l0_2 l1_2).bind fun t17 => (if t17 = true then (if a0_3 = a1_3 then (some true) else (some false)) else (some false))) else (some false)) = some r := H; have A5 := zA A50; clear A50
  by_cases c6 : t16 = true
  ·subst c6
   have H1 : ((laws_eqStringS.f k l0_2 l1_2).bind fun t17 => (if t17 = true then (if a0_3 = a1_3 then (some true) else (some false)) else (some false))) = some r := by rw [if_pos rfl] at H; exact H
   clear H; have H := H1; clear H1; replace H := zAF H; obtain ⟨t17, A70, H⟩ := H; replace H : (if t17 = true then (if a0_3 = a1_3 then (some true) else (some false)) else (some false)) = some r := H; have A7 := zA A70; clear A70
   by_cases c8 : t17 = true
   ·subst c8
    have H1 : (if a0_3 = a1_3 then (some true) else (some false)) = some r := by rw [if_pos rfl] at H; exact H
    clear H; have H := H1; clear H1
    by_cases c9 : a0_3 = a1_3
    ·rw [if_pos c9] at H
     have c9b0 : (a0_3 == a1_3) = true := beq_iff_eq.mpr c9; have c9b1 : (a0_3 != a1_3) = false := bne_eq_false_iff_eq.mpr c9; clear c9; obtain rfl := yM H; go_enter Try.func37, Try.ntmps37; go_wp2_with (first | ((with_reducible refine gate_dst (N := 2) rfl ?_); refine box_event ?hg (N := 2) ?hd (cs := #[.slice A0_0 l0_0.length c0_0, .slice A0_1 l0_1.length c0_1, .slice A0_2 l0_2.length c0_2, .int .i64 a0_3]) (t := 43) ?hr ?_; (case hd => rfl); (case hg => rfl); (case hr => first | (go_simp; done) | (go_simp; rfl)); intro gb18 hg w10 hbox hb; have n0_ := zA (zAD (by (with_reducible repeat first | exact HB.out | apply zH | apply zF | apply zG) <;> exact HB.out) hb); have n1_ := zA (hbox); have n2_ := zA ((by rw [hg]; exact (zAE (by (with_reducible repeat first | exact HB.out | apply zH | apply zF | apply zG) <;> exact HB.out)) : w.heap.size ≤ gb18)); have n3_ := zA ((by rw [hg]; exact (zAE (by (with_reducible repeat first | exact HB.out | apply zH | apply zF | apply zG) <;> exact HB.out)) : w.heap.size ≤ gb18)); clear HB; have HB := n0_; have BK18 := n1_; have GW18 := n2_; have GE18 := n3_; clear n0_ n1_ n2_ n3_; clear hb hbox hg) | ((with_reducible refine gate_dst (N := 3) rfl ?_); refine box_event ?hg (N := 3) ?hd (cs := #[.slice A1_0 l1_0.length c1_0, .slice A1_1 l1_1.length c1_1, .slice A1_2 l1_2.length c1_2, .int .i64 a1_3]) (t := 43) ?hr ?_; (case hd => rfl); (case hg => rfl); (case hr => first | (go_simp; done) | (go_simp; rfl)); intro gb19 hg w11 hbox hb; have n0_ := zA (yE (g := gb18) (o := .cells #[.slice A0_0 l0_0.length c0_0, .slice A0_1 l0_1.length c0_1, .slice A0_2 l0_2.length c0_2, .int .i64 a0_3] 43 (0, 0)) (by (with_reducible repeat (first | refine zL ?_ _ | refine zN ?_ | refine zM ?_ _)); exact BK18.out) hb); have n1_ := zA (zAD (by repeat (first | (with_reducible first | exact HB.out | apply zH | apply zF | apply zG | refine zI ?_ GE18.out) | exact HB.out)) hb); have n2_ := zA (hbox); have n3_ := zA ((by rw [hg]; exact (zAE (by repeat (first | (with_reducible first | exact HB.out | apply zH | apply zF | apply zG | refine zI ?_ GE18.out) | exact HB.out))) : w.heap.size ≤ gb19)); have n4_ := zA ((by rw [hg]; exact (zAE (by repeat (first | (with_reducible first | exact HB.out | apply zH | apply zF | apply zG | refine zI ?_ GE18.out) | exact HB.out))) : w.heap.size ≤ gb19)); have n5_ := zA ((by rw [hg]; exact zK (blk_lt (g := gb18) (o := .cells #[.slice A0_0 l0_0.length c0_0, .slice A0_1 l0_1.length c0_1, .slice A0_2 l0_2.length c0_2, .int .i64 a0_3] 43 (0, 0)) (by (with_reducible repeat (first | refine zL ?_ _ | refine zN ?_ | refine zM ?_ _)); exact BK18.out)) : gb18 ≠ gb19)); have n6_ := zA ((by rw [hg]; exact Nat.ne_of_gt (blk_lt (g := gb18) (o := .cells #[.slice A0_0 l0_0.length c0_0, .slice A0_1 l0_1.length c0_1, .slice A0_2 l0_2.length c0_2, .int .i64 a0_3] 43 (0, 0)) (by (with_reducible repeat (first | refine zL ?_ _ | refine zN ?_ | refine zM ?_ _)); exact BK18.out)) : gb19 ≠ gb18)); clear BK18; clear HB; have BK18 := n0_; have HB := n1_; have BK19 := n2_; have GW19 := n3_; have GE19 := n4_; have NB18_19 := n5_; have NB19_18 := n6_; clear n0_ n1_ n2_ n3_ n4_ n5_ n6_; clear hb hbox hg; have hnb12 := NB18_19.out; have hnc12 := NB19_18.out; have hcz13_0 := yL BK18.out 0 (.slice A0_0 l0_0.length c0_0) rfl; have hcz13_1 := yL BK18.out 1 (.slice A0_1 l0_1.length c0_1) rfl; have hcz13_2 := yL BK18.out 2 (.slice A0_2 l0_2.length c0_2) rfl; have hcz13_3 := yL BK18.out 3 (.int .i64 a0_3) rfl; have hfz13_0 := zO BK18.out 0; have hfz13_1 := zO BK18.out 1; have hfz13_2 := zO BK18.out 2; have hfz13_3 := zO BK18.out 3; have hcz14_0 := yL BK19.out 0 (.slice A1_0 l1_0.length c1_0) rfl; have hcz14_1 := yL BK19.out 1 (.slice A1_1 l1_1.length c1_1) rfl; have hcz14_2 := yL BK19.out 2 (.slice A1_2 l1_2.length c1_2) rfl; have hcz14_3 := yL BK19.out 3 (.int .i64 a1_3) rfl; have hfz14_0 := zO BK19.out 0; have hfz14_1 := zO BK19.out 1; have hfz14_2 := zO BK19.out 2; have hfz14_3 := zO BK19.out 3) | ((with_reducible refine yB (f := 73) rfl ?_); refine goesL_ (some 9) rfl rfl Try.func73 (by kernel_rfl) rfl #[.slice A0_0 l0_0.length c0_0, .slice A1_0 l1_0.length c1_0] rfl (by (try simp only [zAA, zAB, zAC]); first | done | rfl | (simp only [zZ, zY]; rfl)) ?_; (with_reducible refine (laws_eqStringS.calls k _ _ l0_0 _ _ l1_0 true _ ?side1 ?side2 ?side3 ?side4 A3.out ⟨rfl⟩).mono ?_); (case side1 => repeat (first | exact (yN HR0_0.out HB.out) | (with_reducible first | refine zT ?_ _ | refine zU ?_ _ | refine zV ?_))); (case side2 => exact HC0_0.out); (case side3 => repeat (first | exact (yN HR1_0.out HB.out) | (with_reducible first | refine zT ?_ _ | refine zU ?_ _ | refine zV ?_))); (case side4 => exact HC1_0.out); rintro e w' ⟨rfl, ⟨nd, rfl⟩⟩; refine ⟨_, rfl, ?_⟩) | ((with_reducible refine yB (f := 73) rfl ?_); refine goesL_ (some 15) rfl rfl Try.func73 (by kernel_rfl) rfl #[.slice A0_1 l0_1.length c0_1, .slice A1_1 l1_1.length c1_1] rfl (by (try simp only [zAA, zAB, zAC]); first | done | rfl | (simp only [zZ, zY]; rfl)) ?_; (with_reducible refine (laws_eqStringS.calls k _ _ l0_1 _ _ l1_1 true _ ?side1 ?side2 ?side3 ?side4 A5.out ⟨rfl⟩).mono ?_); (case side1 => repeat (first | exact (yN HR0_1.out (by repeat (first | (with_reducible first | exact HB.out | apply zH | apply zF | apply zG | refine zI ?_ GE18.out | refine zI ?_ GE19.out) | exact HB.out))) | (with_reducible first | refine zT ?_ _ | refine zU ?_ _ | refine zV ?_))); (case side2 => exact HC0_1.out); (case side3 => repeat (first | exact (yN HR1_1.out (by repeat (first | (with_reducible first | exact HB.out | apply zH | apply zF | apply zG | refine zI ?_ GE18.out | refine zI ?_ GE19.out) | exact HB.out))) | (with_reducible first | refine zT ?_ _ | refine zU ?_ _ | refine zV ?_))); (case side4 => exact HC1_1.out); rintro e w' ⟨rfl, ⟨nd, rfl⟩⟩; refine ⟨_, rfl, ?_⟩) | ((with_reducible refine yB (f := 73) rfl ?_); refine goesL_ (some 21) rfl rfl Try.func73 (by kernel_rfl) rfl #[.slice A0_2 l0_2.length c0_2, .slice A1_2 l1_2.length c1_2] rfl (by (try simp only [zAA, zAB, zAC]); first | done | rfl | (simp only [zZ, zY]; rfl)) ?_; (with_reducible refine (laws_eqStringS.calls k _ _ l0_2 _ _ l1_2 true _ ?side1 ?side2 ?side3 ?side4 A7.out ⟨rfl⟩).mono ?_); (case side1 => repeat (first | exact (yN HR0_2.out (by repeat (first | (with_reducible first | exact HB.out | apply zH | apply zF | apply zG | refine zI ?_ GE18.out | refine zI ?_ GE19.out) | exact HB.out))) | (with_reducible first | refine zT ?_ _ | refine zU ?_ _ | refine zV ?_))); (case side2 => exact HC0_2.out); (case side3 => repeat (first | exact (yN HR1_2.out (by repeat (first | (with_reducible first | exact HB.out | apply zH | apply zF | apply zG | refine zI ?_ GE18.out | refine zI ?_ GE19.out) | exact HB.out))) | (with_reducible first | refine zT ?_ _ | refine zU ?_ _ | refine zV ?_))); (case side4 => exact HC1_2.out); rintro e w' ⟨rfl, ⟨nd, rfl⟩⟩; refine ⟨_, rfl, ?_⟩))
     go_ret; exact ⟨by first | rfl | (simp <;> rfl) | (simp [*] <;> rfl), by repeat (first | (with_reducible first | exact HB.out | apply zH | apply zF | apply zG | refine zI ?_ GE18.out | refine zI ?_ GE19.out) | exact HB.out)⟩
    ·rw [if_neg c9] at H
     have c9b0 : (a0_3 == a1_3) = false := beq_eq_false_iff_ne.mpr c9; have c9b1 : (a0_3 != a1_3) = true := bne_iff_ne.mpr c9; exact absurd ((yM H).trans hr_.out) (by decide)
   ·replace c8 := yO c8
    subst c8; have H1 : (some false) = some r := by rw [if_neg (show ¬ (false = true) by decide)] at H; exact H
    clear H; have H := H1; clear H1; exact absurd ((yM H).trans hr_.out) (by decide)
  ·replace c6 := yO c6
   subst c6; have H1 : (some false) = some r := by rw [if_neg (show ¬ (false = true) by decide)] at H; exact H
   clear H; have H := H1; clear H1; exact absurd ((yM H).trans hr_.out) (by decide)
 ·replace c4 := yO c4
  subst c4; have H1 : (some false) = some r := by rw [if_neg (show ¬ (false = true) by decide)] at H; exact H
  clear H; have H := H1; clear H1; exact absurd ((yM H).trans hr_.out) (by decide)
def laws_eqShownS.l0 : Nat → List (S43) → List (S43) → Int → Option (Bool)
 | 0, _, _, _ => none
 | k + 1, x0, x1, x5 => if x5 < (x0.length : Int) then (if 0 ≤ x5 then (if x5 < (x1.length : Int) then ((laws_eqShown.f k ((rd_T43 x0 x5).f0) ((rd_T43 x0 x5).f1) ((rd_T43 x0 x5).f2) ((rd_T43 x0 x5).f3) ((rd_T43 x1 x5).f0) ((rd_T43 x1 x5).f1) ((rd_T43 x1 x5).f2) ((rd_T43 x1 x5).f3)).bind fun t10 => (if t10 = true then (laws_eqShownS.l0 k x0 x1 (wrap64 (x5 + 1))) else (some false))) else (none)) else (none)) else (some true)
def laws_eqShownS.f (k : Nat) (l0 : List (S43)) (l1 : List (S43)) : Option (Bool) := if (l0.length : Int) = (l1.length : Int) then (laws_eqShownS.l0 k l0 l1 0) else (some false)
def laws_eqShownS.T6 : Bool × List (List Nat × List Nat) := (true, [([], []), ([], []), ([0, 1], [0, 1]), ([2], [2]), ([], []), ([], []), ([4, 5], [4, 5]), ([6], [6]), ([3, 7], [3, 7]), ([8], [8])])
def laws_eqShownS.B6 : List Nat := [0, 0, 3, 7, 0, 0, 48, 112, 255, 511]
theorem laws_eqShownS.tab6 : rtab .any (opsOf Try.f13 6) = laws_eqShownS.T6 := by kernel_rfl
theorem laws_eqShownS.bits6 : waitsOk laws_eqShownS.T6.2 laws_eqShownS.B6 = true := by kernel_rfl
theorem laws_eqShownS.calls (k : Nat) (A0 : Option Addr) (c0 : Nat) (l0 : List (S43)) (A1 : Option Addr) (c1 : Nat) (l1 : List (S43)) (r : Bool) (w : World) (hr0 : Kd.C k43 w A0 l0.length l0) (hc0 : l0.length ≤ c0) (hr1 : Kd.C k43 w A1 l1.length l1) (hc1 : l1.length ≤ c1) (h : laws_eqShownS.f k l0 l1 = some r) (hr_ : Aside0 (r = true)) :
  Calls Try.prog 13 #[.slice A0 l0.length c0, .slice A1 l1.length c1] w fun e w' => e = .returned (.bool r) ∧ Below w.heap.size w w' := by
 have hu43 := Try.underlying43; have HR0 := zA hr0; have HC0 := zA hc0; clear hr0 hc0; have HR1 := zA hr1; have HC1 := zA hc1; clear hr1 hc1; have HB := zA (Below.refl w.heap.size w); have H : (if (l0.length : Int) = (l1.length : Int) then (laws_eqShownS.l0 k l0 l1 0) else (some false)) = some r := h; clear h
 by_cases c3 : (l0.length : Int) = (l1.length : Int)
 ·rw [if_pos c3] at H
  have c3b0 : ((l0.length : Int) == (l1.length : Int)) = true := beq_iff_eq.mpr c3; have c3b1 : ((l0.length : Int) != (l1.length : Int)) = false := bne_eq_false_iff_eq.mpr c3; have c3b2 : (l0.length == l1.length) = true := by first | simpa using c3 | (simp at c3 ⊢; omega)
  clear c3; have H' := zA H; clear H; go_enter Try.func13, Try.ntmps13; go_wp2; go_loopg [5] k (fun kq v5 w' => ∃ (x5_1 : Int), v5 = .int .i64 x5_1 ∧ Aside0 (laws_eqShownS.l0 kq l0 l1 x5_1 = some r) ∧ Aside0 (kq ≤ k) ∧ Aside0 (Below w.heap.size w w'))
  case atStart => exact ⟨(0), (by first | rfl | (simp; done) | (simp [*]; done) | (simp [bne]; done)), H', ⟨Nat.le_refl _⟩, ⟨by (with_reducible repeat first | exact HB.out | apply zH | apply zF | apply zG) <;> exact HB.out⟩⟩
  case round =>
   clear H'
   try clear c1
   try clear p2
   try clear c3
   try clear c3b0
   try clear c3b1
   try clear c3b2
   obtain ⟨x5_1, rfl, HA, HK1, HB⟩ := hrel
   cases gk with
   | zero => exact absurd HA.out (by simp [laws_eqShownS.l0])
   | succ k1 =>
    have H := HA.out; clear HA; simp only [laws_eqShownS.l0] at H
    by_cases c4 : x5_1 < (l0.length : Int)
    ·rw [if_pos c4] at H
     have c4b0 : decide (x5_1 < (l0.length : Int)) = true := zX c4; clear c4
     by_cases c5 : 0 ≤ x5_1
     ·rw [if_pos c5] at H
      have c5b0 : decide (0 ≤ x5_1) = true := zX c5; clear c5
      by_cases c6 : x5_1 < (l1.length : Int)
      ·rw [if_pos c6] at H
       have c6b0 : decide (x5_1 < (l1.length : Int)) = true := zX c6; clear c6; replace H := zAF H; obtain ⟨t13, A70, H⟩ := H; replace H : (if t13 = true then (laws_eqShownS.l0 k1 l0 l1 (wrap64 (x5_1 + 1))) else (some false)) = some r := H; have A7 := zA A70; clear A70
       by_cases c8 : t13 = true
       ·subst c8
        have H1 : (laws_eqShownS.l0 k1 l0 l1 (wrap64 (x5_1 + 1))) = some r := by rw [if_pos rfl] at H; exact H
        clear H; have H := H1; clear H1; have H' := zA H; clear H
        try go_wp2
        have n0_ := zA (zG HB.out); clear HB; have HB := n0_; clear n0_; have p14 : 0 ≤ (x5_1 : Int) := zW (by first | (with_reducible assumption) | assumption); have q14 : x5_1 < (l0.length : Int) := zW (by first | (with_reducible assumption) | assumption); obtain ⟨ad14, A14_0, c14_0, A14_1, c14_1, A14_2, c14_2, e14, hx14_0, hx14_1, hx14_2, hx14_3, hl14_0, hi14_0, hl14_1, hi14_1, hl14_2, hi14_2⟩ := at_T43 HR0.out x5_1 p14 q14; have hw14_3 := hx14_3; have hw14_2 := hx14_2; have hw14_1 := hx14_1; have hw14_0 := hx14_0
        cases e14
        replace hx14_0 := (HB.out.cell (zB w _ hx14_0)).trans hx14_0; replace hx14_1 := (HB.out.cell (zB w _ hx14_1)).trans hx14_1; replace hx14_2 := (HB.out.cell (zB w _ hx14_2)).trans hx14_2; replace hx14_3 := (HB.out.cell (zB w _ hx14_3)).trans hx14_3; have HR14_0 := zA hi14_0; have HC14_0 := zA hl14_0; clear hi14_0 hl14_0; have HR14_1 := zA hi14_1; have HC14_1 := zA hl14_1; clear hi14_1 hl14_1; have HR14_2 := zA hi14_2; have HC14_2 := zA hl14_2; clear hi14_2 hl14_2; replace p14 := eq_true p14; replace q14 := eq_true q14; have p15 : 0 ≤ (x5_1 : Int) := zW (by first | (with_reducible assumption) | assumption); have q15 : x5_1 < (l1.length : Int) := zW (by first | (with_reducible assumption) | assumption); obtain ⟨ad15, A15_0, c15_0, A15_1, c15_1, A15_2, c15_2, e15, hx15_0, hx15_1, hx15_2, hx15_3, hl15_0, hi15_0, hl15_1, hi15_1, hl15_2, hi15_2⟩ := at_T43 HR1.out x5_1 p15 q15; have hw15_3 := hx15_3; have hw15_2 := hx15_2; have hw15_1 := hx15_1; have hw15_0 := hx15_0
        cases e15
        replace hx15_0 := (HB.out.cell (zB w _ hx15_0)).trans hx15_0; replace hx15_1 := (HB.out.cell (zB w _ hx15_1)).trans hx15_1; replace hx15_2 := (HB.out.cell (zB w _ hx15_2)).trans hx15_2; replace hx15_3 := (HB.out.cell (zB w _ hx15_3)).trans hx15_3; have HR15_0 := zA hi15_0; have HC15_0 := zA hl15_0; clear hi15_0 hl15_0; have HR15_1 := zA hi15_1; have HC15_1 := zA hl15_1; clear hi15_1 hl15_1; have HR15_2 := zA hi15_2; have HC15_2 := zA hl15_2; clear hi15_2 hl15_2; replace p15 := eq_true p15; replace q15 := eq_true q15; refine start_ (n := 10) (S := fun w' => w'.cell? (ad14.add ((x5_1).toNat * 4)) = some (.slice A14_0 ((rd_T43 l0 x5_1).f0).length c14_0) ∧ w'.cell? ⟨(ad14.add ((x5_1).toNat * 4)).block, (ad14.add ((x5_1).toNat * 4)).off + 1, none⟩ = some (.slice A14_1 ((rd_T43 l0 x5_1).f1).length c14_1) ∧ w'.cell? ⟨(ad14.add ((x5_1).toNat * 4)).block, (ad14.add ((x5_1).toNat * 4)).off + 2, none⟩ = some (.slice A14_2 ((rd_T43 l0 x5_1).f2).length c14_2) ∧ w'.cell? ⟨(ad14.add ((x5_1).toNat * 4)).block, (ad14.add ((x5_1).toNat * 4)).off + 3, none⟩ = some (.int .i64 ((rd_T43 l0 x5_1).f3)) ∧ w'.cell? (ad15.add ((x5_1).toNat * 4)) = some (.slice A15_0 ((rd_T43 l1 x5_1).f0).length c15_0) ∧ w'.cell? ⟨(ad15.add ((x5_1).toNat * 4)).block, (ad15.add ((x5_1).toNat * 4)).off + 1, none⟩ = some (.slice A15_1 ((rd_T43 l1 x5_1).f1).length c15_1) ∧ w'.cell? ⟨(ad15.add ((x5_1).toNat * 4)).block, (ad15.add ((x5_1).toNat * 4)).off + 2, none⟩ = some (.slice A15_2 ((rd_T43 l1 x5_1).f2).length c15_2) ∧ w'.cell? ⟨(ad15.add ((x5_1).toNat * 4)).block, (ad15.add ((x5_1).toNat * 4)).off + 3, none⟩ = some (.int .i64 ((rd_T43 l1 x5_1).f3))) (ds := []) (bA 10 0) (by kernel_rfl) rfl rfl ⟨((HB.out.cell (zB w _ hw14_0)).trans hw14_0), ((HB.out.cell (zB w _ hw14_1)).trans hw14_1), ((HB.out.cell (zB w _ hw14_2)).trans hw14_2), ((HB.out.cell (zB w _ hw14_3)).trans hw14_3), ((HB.out.cell (zB w _ hw15_0)).trans hw15_0), ((HB.out.cell (zB w _ hw15_1)).trans hw15_1), ((HB.out.cell (zB w _ hw15_2)).trans hw15_2), ((HB.out.cell (zB w _ hw15_3)).trans hw15_3)⟩ (fun hHeld => ?_); refine with_tabW laws_eqShownS.tab6 laws_eqShownS.bits6 (fun HT_ HW_ => ?_); generalize wr.drew = w9 at HB HR14_0 HR14_1 HR14_2 HR15_0 HR15_1 HR15_2 hx14_0 hx14_1 hx14_2 hx14_3 hx15_0 hx15_1 hx15_2 hx15_3 hHeld ⊢; refine wzP 0 17 (bA 10 1) HT_ ?_
        refine wzP 1 18 (bA 10 3) HT_ ?_
        refine wzP 2 19 (bA 10 7) HT_ ?_
        refine wzP 4 21 (bA 10 23) HT_ ?_
        refine wzP 5 22 (bA 10 55) HT_ ?_
        refine wzP 6 23 (bA 10 119) HT_ ?_
        refine wzT 3 20 (bA 10 127) HT_ HW_ hHeld ?_
        refine wzT 7 24 (bA 10 255) HT_ HW_ hHeld ?_
        refine one_ (i := 8) (N := some 25) (bA 10 511) rfl rfl (one_of HT_.out (by kernel_rfl)) (by decide) (fun K hK => ?_); refine goes_ Try.func37 (by kernel_rfl) rfl #[.agg #[.slice A14_0 ((rd_T43 l0 x5_1).f0).length c14_0, .slice A14_1 ((rd_T43 l0 x5_1).f1).length c14_1, .slice A14_2 ((rd_T43 l0 x5_1).f2).length c14_2, .int .i64 ((rd_T43 l0 x5_1).f3)], .agg #[.slice A15_0 ((rd_T43 l1 x5_1).f0).length c15_0, .slice A15_1 ((rd_T43 l1 x5_1).f1).length c15_1, .slice A15_2 ((rd_T43 l1 x5_1).f2).length c15_2, .int .i64 ((rd_T43 l1 x5_1).f3)]] (by rfl) rfl rfl (by (try simp only [zAA, zAB, zAC]); first | done | rfl | (simp only [zZ, zY]; rfl)) ?_
        with_reducible refine (laws_eqShown.calls k1 _ _ ((rd_T43 l0 x5_1).f0) _ _ ((rd_T43 l0 x5_1).f1) _ _ ((rd_T43 l0 x5_1).f2) ((rd_T43 l0 x5_1).f3) _ _ ((rd_T43 l1 x5_1).f0) _ _ ((rd_T43 l1 x5_1).f1) _ _ ((rd_T43 l1 x5_1).f2) ((rd_T43 l1 x5_1).f3) true _ ?side1 ?side2 ?side3 ?side4 ?side5 ?side6 ?side7 ?side8 ?side9 ?side10 ?side11 ?side12 A7.out ⟨rfl⟩).mono ?_
        (case side1 => repeat (first | exact (yN HR14_0.out HB.out) | (with_reducible first | refine zT ?_ _ | refine zU ?_ _ | refine zV ?_))); (case side2 => exact HC14_0.out); (case side3 => repeat (first | exact (yN HR14_1.out HB.out) | (with_reducible first | refine zT ?_ _ | refine zU ?_ _ | refine zV ?_))); (case side4 => exact HC14_1.out); (case side5 => repeat (first | exact (yN HR14_2.out HB.out) | (with_reducible first | refine zT ?_ _ | refine zU ?_ _ | refine zV ?_))); (case side6 => exact HC14_2.out); (case side7 => repeat (first | exact (yN HR15_0.out HB.out) | (with_reducible first | refine zT ?_ _ | refine zU ?_ _ | refine zV ?_))); (case side8 => exact HC15_0.out); (case side9 => repeat (first | exact (yN HR15_1.out HB.out) | (with_reducible first | refine zT ?_ _ | refine zU ?_ _ | refine zV ?_))); (case side10 => exact HC15_1.out); (case side11 => repeat (first | exact (yN HR15_2.out HB.out) | (with_reducible first | refine zT ?_ _ | refine zU ?_ _ | refine zV ?_))); (case side12 => exact HC15_2.out); rintro e w10 ⟨rfl, hb⟩; refine ⟨_, rfl, ?_⟩; have n0_ := zA (zAD (by (with_reducible repeat first | exact HB.out | apply zH | apply zF | apply zG) <;> exact HB.out) hb); clear HB; have HB := n0_; clear n0_; (try clear hb); refine hK.out _ _ ⟨((HB.out.cell (zB w _ hw14_0)).trans hw14_0), ((HB.out.cell (zB w _ hw14_1)).trans hw14_1), ((HB.out.cell (zB w _ hw14_2)).trans hw14_2), ((HB.out.cell (zB w _ hw14_3)).trans hw14_3), ((HB.out.cell (zB w _ hw15_0)).trans hw15_0), ((HB.out.cell (zB w _ hw15_1)).trans hw15_1), ((HB.out.cell (zB w _ hw15_2)).trans hw15_2), ((HB.out.cell (zB w _ hw15_3)).trans hw15_3)⟩ (fun hHeld => ?_); clear hK K; refine wzN 25 ?_
        refine wzP 9 26 (bA 10 1023) HT_ ?_
        refine done_ (done_of HT_.out (by kernel_rfl)) ?_
        try go_wp2
        go_roundg k1
        case measure => have := HK1.out; omega
        case rel => exact ⟨(wrap64 (x5_1 + 1)), (by first | rfl | (simp; done) | (simp [*]; done) | (simp [bne]; done)), H', ⟨by have := HK1.out; omega⟩, ⟨by (with_reducible repeat first | exact HB.out | apply zH | apply zF | apply zG) <;> exact HB.out⟩⟩
       ·replace c8 := yO c8
        subst c8; have H1 : (some false) = some r := by rw [if_neg (show ¬ (false = true) by decide)] at H; exact H
        clear H; have H := H1; clear H1; exact absurd ((yM H).trans hr_.out) (by decide)
      ·rw [if_neg c6] at H
       exact absurd H (by simp)
     ·rw [if_neg c5] at H
      exact absurd H (by simp)
    ·rw [if_neg c4] at H
     have c4b0 : decide (x5_1 < (l0.length : Int)) = false := decide_eq_false c4; clear c4; obtain rfl := yM H; go_wp2; go_ret; exact ⟨by first | rfl | (simp <;> rfl) | (simp [*] <;> rfl), by (with_reducible repeat first | exact HB.out | apply zH | apply zF | apply zG) <;> exact HB.out⟩
 ·rw [if_neg c3] at H
  have c3b0 : ((l0.length : Int) == (l1.length : Int)) = false := beq_eq_false_iff_ne.mpr c3; have c3b1 : ((l0.length : Int) != (l1.length : Int)) = true := bne_iff_ne.mpr c3; have c3b2 : (l0.length == l1.length) = false := by first | simpa using c3 | (simp at c3 ⊢; omega)
  exact absurd ((yM H).trans hr_.out) (by decide)
def laws_markText.l0 : Nat → Int → ByteArray → Option (ByteArray)
 | 0, _, _ => none
 | k + 1, x0, x3 => if x0 > 0 then ((some (([(wrap64 (48 + (Int.tmod x0 10))) % 256] : List Int) : List Int)).bind fun y10 => (if (strOfNums y10).size + x3.size ≤ 9223372036854775807 then (laws_markText.l0 k (wrap64 (Int.tdiv x0 10)) ((strOfNums y10) ++ x3)) else (none))) else (if 1 + x3.size ≤ 9223372036854775807 then (some ((⟨#[109]⟩ : ByteArray) ++ x3)) else (none))
def laws_markText.f (k : Nat) (a0 : Int) : Option (ByteArray) := if a0 ≤ 0 then (some (⟨#[109, 48]⟩ : ByteArray)) else (laws_markText.l0 k a0 (⟨#[]⟩ : ByteArray))
theorem laws_markText.calls (k : Nat) (a0 : Int) (r : ByteArray) (w : World) (h : laws_markText.f k a0 = some r) :
  Calls Try.prog 74 #[.int .i64 a0] w fun e w' => e = .returned (.string r) ∧ Below w.heap.size w w' := by
 have HB := zA (Below.refl w.heap.size w); have H : (if a0 ≤ 0 then (some (⟨#[109, 48]⟩ : ByteArray)) else (laws_markText.l0 k a0 (⟨#[]⟩ : ByteArray))) = some r := h; clear h
 by_cases c2 : a0 ≤ 0
 ·rw [if_pos c2] at H
  have c2b0 : decide (a0 ≤ 0) = true := zX c2; clear c2; obtain rfl := yM H; go_enter Try.func74, Try.ntmps74; go_wp2; go_ret; exact ⟨by first | rfl | (simp <;> rfl) | (simp [*] <;> rfl), by (with_reducible repeat first | exact HB.out | apply zH | apply zF | apply zG) <;> exact HB.out⟩
 ·rw [if_neg c2] at H
  have c2b0 : decide (a0 ≤ 0) = false := decide_eq_false c2; clear c2; have H' := zA H; clear H; go_enter Try.func74, Try.ntmps74; go_wp2; go_loopg [0, 3] k (fun kq v0 v3 w' => ∃ (x0_1 : Int) (x3_1 : ByteArray), v0 = .int .i64 x0_1 ∧ v3 = .string x3_1 ∧ Aside0 (laws_markText.l0 kq x0_1 x3_1 = some r) ∧ Aside0 (kq ≤ k) ∧ Aside0 (Below w.heap.size w w'))
  case atStart => exact ⟨(a0), ((⟨#[]⟩ : ByteArray)), (by first | rfl | (simp; done) | (simp [*]; done) | (simp [bne]; done)), (by first | rfl | (simp; done) | (simp [*]; done) | (simp [bne]; done)), H', ⟨Nat.le_refl _⟩, ⟨by (with_reducible repeat first | exact HB.out | apply zH | apply zF | apply zG) <;> exact HB.out⟩⟩
  case round =>
   clear H'
   try clear c2
   try clear c2b0
   try clear p2
   obtain ⟨x0_1, x3_1, rfl, rfl, HA, HK1, HB⟩ := hrel
   cases gk with
   | zero => exact absurd HA.out (by simp [laws_markText.l0])
   | succ k1 =>
    have H := HA.out; clear HA; simp only [laws_markText.l0] at H
    by_cases c3 : x0_1 > 0
    ·rw [if_pos c3] at H
     have c3b0 : decide (0 < x0_1) = true := zX c3; clear c3; obtain ⟨y10, hy10⟩ : ∃ y_ : List Int, y_ = (([(wrap64 (48 + (Int.tmod x0_1 10))) % 256] : List Int)) := ⟨_, rfl⟩; replace H : (if (strOfNums y10).size + x3_1.size ≤ 9223372036854775807 then (laws_markText.l0 k1 (wrap64 (Int.tdiv x0_1 10)) ((strOfNums y10) ++ x3_1)) else (none)) = some r := by first | (rw [hy10]; with_reducible exact H) | (have H2_ := (Option.bind_some _ _).symm.trans H; rw [hy10]; with_reducible exact H2_) | (have H2_ := (Option.bind_some _ _).symm.trans H; with_reducible exact H2_) | with_reducible exact H | (rw [hy10]; exact H) | exact H
     have Ny10 := zA hy10; clear hy10
     by_cases c4 : (strOfNums y10).size + x3_1.size ≤ 9223372036854775807
     ·rw [if_pos c4] at H
      have c4b0 := eq_true c4; have c4b1 : decide ((strOfNums y10).size + x3_1.size ≤ 9223372036854775807) = true := zX c4
      try have c4b2 : (9223372036854775807 < (strOfNums y10).size + x3_1.size) = False := eq_false (Nat.not_lt.2 c4)
      have H' := zA H; clear H; go_wp2_with (first | ((with_reducible refine gate_dst (N := 12) rfl ?_); refine Kd.R_lit (Kd.int .u8) _ 5 ?hg (N := 12) ?hd (xs := ([(wrap64 (48 + (Int.tmod x0_1 10))) % 256] : List Int)) (inner := [.int .u8 ((wrap64 (48 + (Int.tmod x0_1 10))) % 256)]) (ok := fun _ => True) (okp := fun _ => True) ?hr ?hp (fun _ hk => hk) trivial (Below.refl _ _) (Nat.le_refl _) (by simp) ?_; (case hd => rfl); (case hg => rfl); (case hr => first | (go_simp; done) | (go_simp; rfl)); (case hp => exact (Reps.one (show Kd.M (Kd.int .u8) _ _ _ ((wrap64 (48 + (Int.tmod x0_1 10))) % 256) [.int .u8 ((wrap64 (48 + (Int.tmod x0_1 10))) % 256)] from rfl) (Reps.none _ _))); intro v11 w5 ho6 hb hg_ hnew_; clear hg_ hnew_; (first | rw [← Ny10.out] at ho6 | (simp only [Int.reduceToNat] at ho6; rw [← Ny10.out] at ho6)); have n0_ := zA (Kd.R_lower ho6 (zAE (by (with_reducible repeat first | exact HB.out | apply zH | apply zF | apply zG) <;> exact HB.out))); have n1_ := zA (zAD (by (with_reducible repeat first | exact HB.out | apply zH | apply zF | apply zG) <;> exact HB.out) hb); clear HB; have HO12 := n0_; have HB := n1_; clear n0_ n1_; clear hb ho6; have hcv7 := own_string (P := Try.prog) Try.underlying119 Try.underlying5 Try.underlying9 (Kd.own_of_R HO12.out))); go_roundg k1
      case measure => have := HK1.out; omega
      case rel => exact ⟨(wrap64 (Int.tdiv x0_1 10)), ((strOfNums y10) ++ x3_1), (by first | rfl | (simp; done) | (simp [*]; done) | (simp [bne]; done)), (by first | rfl | (simp; done) | (simp [*]; done) | (simp [bne]; done)), H', ⟨by have := HK1.out; omega⟩, ⟨by (with_reducible repeat first | exact HB.out | apply zH | apply zF | apply zG) <;> exact HB.out⟩⟩
     ·rw [if_neg c4] at H
      exact absurd H (by simp)
    ·rw [if_neg c3] at H
     have c3b0 : decide (0 < x0_1) = false := decide_eq_false c3; clear c3
     by_cases c8 : 1 + x3_1.size ≤ 9223372036854775807
     ·rw [if_pos c8] at H
      have c8b0 := eq_true c8; have c8b1 : decide (1 + x3_1.size ≤ 9223372036854775807) = true := zX c8
      try have c8b2 : (9223372036854775807 < 1 + x3_1.size) = False := eq_false (Nat.not_lt.2 c8)
      obtain rfl := yM H; go_wp2; go_ret; exact ⟨by first | rfl | (simp <;> rfl) | (simp [*] <;> rfl), by (with_reducible repeat first | exact HB.out | apply zH | apply zF | apply zG) <;> exact HB.out⟩
     ·rw [if_neg c8] at H
      exact absurd H (by simp)
def laws_markStringS.l0 : Nat → List ByteArray → Int → Int → Option (Int × List ByteArray)
 | 0, _, _, _ => none
 | k + 1, x0, x1, x5 => if x5 < (x0.length : Int) then ((laws_markText.f k x1).bind fun t10 => (if 0 ≤ x5 then (laws_markStringS.l0 k (x0.set (x5 : Int).toNat t10) (wrap64 (x1 + 1)) (wrap64 (x5 + 1))) else (none))) else (some (x1, x0))
def laws_markStringS.f (k : Nat) (l0 : List ByteArray) (a1 : Int) : Option (Int × List ByteArray) := laws_markStringS.l0 k l0 a1 0
theorem laws_markStringS.calls (k : Nat) (P0_ : Nat → Prop) (u9000_ : Value) (l0 : List ByteArray) (a1 : Int) (r1 : Int) (r2 : List ByteArray) (w0 w : World) (hB : Below w0.heap.size w0 w) (ho0 : Kd.R Kd.string 9 w w0.heap.size P0_ u9000_ l0) (h : laws_markStringS.f k l0 a1 = some (r1, r2)) :
  Calls Try.prog 39 #[u9000_, .int .i64 a1] w fun e w' => e = .returned (.int .i64 r1) ∧ Kd.R Kd.string 9 w' w0.heap.size (fun k_ => (P0_ k_ ∨ w.heap.size ≤ k_)) u9000_ r2 ∧ Below w0.heap.size w0 w' ∧ Kept w w' (fun k_ => P0_ k_) := by
 have HO0 := zA (show Kd.R Kd.string 9 w w0.heap.size (fun k_ => (P0_ k_ ∨ w.heap.size ≤ k_)) u9000_ l0 from yC ho0 (fun k_ hk => (.inl hk))); have HK := zA (Kept.refl w (fun k_ => P0_ k_)); have HW0 := zA hB.size; have HB := zA hB; clear hB; have H : (laws_markStringS.l0 k l0 a1 0) = some (r1, r2) := h; clear h; have H' := zA H; clear H; go_enter Try.func39, Try.ntmps39; go_wp2; go_loopg [1, 5] k (fun kq v1 v5 w' => ∃ (x0_1 : List ByteArray) (x1_1 : Int) (x5_1 : Int), v1 = .int .i64 x1_1 ∧ v5 = .int .i64 x5_1 ∧ Aside0 (laws_markStringS.l0 kq x0_1 x1_1 x5_1 = some (r1, r2)) ∧ Aside0 (kq ≤ k) ∧ Aside0 (Kd.R Kd.string 9 w' w0.heap.size (fun k_ => (P0_ k_ ∨ w.heap.size ≤ k_)) u9000_ x0_1) ∧ Aside0 (Kept w w' (fun k_ => P0_ k_)) ∧ Aside0 (Below w0.heap.size w0 w'))
 case atStart => exact ⟨(l0), (a1), (0), (by first | rfl | (simp; done) | (simp [*]; done) | (simp [bne]; done)), (by first | rfl | (simp; done) | (simp [*]; done) | (simp [bne]; done)), H', ⟨Nat.le_refl _⟩, ⟨by (with_reducible repeat first | apply zQ | apply zR | apply zS); exact HO0.out⟩, ⟨by repeat (first | (with_reducible first | exact HK.out | apply Kept.alloc | apply Kept.drewN | apply Kept.drew) | exact HK.out)⟩, ⟨by (with_reducible repeat first | exact HB.out | apply zH | apply zF | apply zG) <;> exact HB.out⟩⟩
 case round =>
  clear H'
  try clear p2
  obtain ⟨x0_1, x1_1, x5_1, rfl, rfl, HA, HK1, HO_0, HK, HB⟩ := hrel
  cases gk with
  | zero => exact absurd HA.out (by simp [laws_markStringS.l0])
  | succ k1 =>
   have H := HA.out; clear HA; simp only [laws_markStringS.l0] at H
   by_cases c3 : x5_1 < (x0_1.length : Int)
   ·rw [if_pos c3] at H
    have c3b0 : decide (x5_1 < (x0_1.length : Int)) = true := zX c3; clear c3; replace H := zAF H; obtain ⟨t12, A40, H⟩ := H; replace H : (if 0 ≤ x5_1 then (laws_markStringS.l0 k1 (x0_1.set (x5_1 : Int).toNat t12) (wrap64 (x1_1 + 1)) (wrap64 (x5_1 + 1))) else (none)) = some (r1, r2) := H; have A4 := zA A40; clear A40
    by_cases c5 : 0 ≤ x5_1
    ·rw [if_pos c5] at H
     have c5b0 : decide (0 ≤ x5_1) = true := zX c5; clear c5; obtain ⟨y13, hy13⟩ : ∃ y_ : List ByteArray, y_ = (x0_1.set (x5_1 : Int).toNat t12) := ⟨_, rfl⟩; replace H : (laws_markStringS.l0 k1 y13 (wrap64 (x1_1 + 1)) (wrap64 (x5_1 + 1))) = some (r1, r2) := by first | (rw [hy13]; with_reducible exact H) | (have H2_ := (Option.bind_some _ _).symm.trans H; rw [hy13]; with_reducible exact H2_) | (have H2_ := (Option.bind_some _ _).symm.trans H; with_reducible exact H2_) | with_reducible exact H | (rw [hy13]; exact H) | exact H
     have Ny13 := zA hy13; clear hy13; have H' := zA H; clear H; obtain ⟨Ao7, co7, eo7⟩ := Kd.R_slice HO_0.out; subst eo7; go_wp2_with (first | ((with_reducible refine yB (f := 74) rfl ?_); refine goesL_ (some 15) rfl rfl Try.func74 (by kernel_rfl) rfl #[.int .i64 x1_1] rfl (by (try simp only [zAA, zAB, zAC]); first | done | rfl) ?_; (with_reducible refine (laws_markText.calls k1 x1_1 t12 _ A4.out).mono ?_); rintro e w8 ⟨rfl, hb⟩; refine ⟨_, rfl, ?_⟩; have n0_ := zA (Kd.R_below (by (with_reducible repeat first | apply zQ | apply zR | apply zS); exact HO_0.out) hb); have n1_ := zA (Kept.below (S := (fun k_ => P0_ k_)) (by repeat (first | (with_reducible first | exact HK.out | apply Kept.alloc | apply Kept.drewN | apply Kept.drew) | exact HK.out)) hb); have n2_ := zA (zAD (by (with_reducible repeat first | exact HB.out | apply zH | apply zF | apply zG) <;> exact HB.out) hb); clear HO_0; clear HK; clear HB; have HO_0 := n0_; have HK := n1_; have HB := n2_; clear n0_ n1_ n2_; (try clear hb); have p6 : 0 ≤ (x5_1 : Int) := zW (by first | (with_reducible assumption) | assumption); have q6 : (x5_1 : Int) < ((x0_1.length : Int) : Int) := zW (by first | (with_reducible assumption) | assumption); obtain ⟨go6, co6, eo6, gb6, gl6, cl6, HG6⟩ := Kd.R_form HO_0.out (by omega); (first | cases eo6 | (injection eo6 with ea_ en_ ec_; (first | subst ea_ | (injection ea_ with ea_; subst ea_)); subst ec_; clear en_)); have GB6 := zA gb6; have GG6 := zA HG6; clear gb6 gl6 HG6; have HMgo6 := zA (show (P0_ go6 ∨ w.heap.size ≤ go6) from (HO_0.out.1 _ rfl)); obtain ⟨hx6_0, hf6_0⟩ := Kd.R_celln (⟨#[]⟩ : ByteArray) HO_0.out (x5_1 : Int) p6 q6; replace p6 := eq_true p6; replace q6 := eq_true q6; obtain ⟨hy9_, hz9_⟩ := Kd.R_celln (⟨#[]⟩ : ByteArray) HO_0.out (x5_1 : Int) (zW (by first | (with_reducible assumption) | assumption)) (zW (by first | (with_reducible assumption) | assumption)); have HP9 := Kd.R_putg HO_0.out (x5_1 : Int) t12) | ((with_reducible refine gate_store (t := 9) (p := 16) rfl ?_); refine store_event (t := 9) (p := 16) (v := ?vo_w10) (w1 := (w8.setCell ⟨go6, (x5_1 : Int).toNat, none⟩ (.string t12))) ?hg ?ho ?hn ?hr ?_; (case ho => rfl); (case hg => rfl); (case hn => rfl); (case hr => first | (go_simp; done) | (go_simp; rfl)); intro w10 hw; have hg : w8.grownBy w10 (some go6) := (by rw [hw]; exact HP9.2); have hp_ : Kd.R Kd.string 9 w10 w0.heap.size (fun k_ => (P0_ k_ ∨ w.heap.size ≤ k_)) (.slice (some ⟨go6, 0, none⟩) x0_1.length co7) y13 := (by rw [hw, Ny13.out]; exact HP9.1); clear HP9; have n0_ := zA (hp_); have n1_ := zA ((by rw [hw]; exact zI (HB.out) GB6.out : Below w0.heap.size w0 w10)); have n2_ := zA (Kept.of_grown (S := (fun k_ => P0_ k_)) hg (by repeat (first | (with_reducible first | exact HK.out | apply Kept.alloc | apply Kept.drewN | apply Kept.drew) | exact HK.out)) (fun k_ e_ => (HO_0.out.1 k_ e_))); clear HO_0; clear HB; clear HK; have HO_0 := n0_; have HB := n1_; have HK := n2_; clear n0_ n1_ n2_; clear hg hw hp_)); go_roundg k1
     case measure => have := HK1.out; omega
     case rel => exact ⟨(y13), (wrap64 (x1_1 + 1)), (wrap64 (x5_1 + 1)), (by first | rfl | (simp; done) | (simp [*]; done) | (simp [bne]; done)), (by first | rfl | (simp; done) | (simp [*]; done) | (simp [bne]; done)), H', ⟨by have := HK1.out; omega⟩, ⟨by (with_reducible repeat first | apply zQ | apply zR | apply zS); exact HO_0.out⟩, ⟨by repeat (first | (with_reducible first | exact HK.out | apply Kept.alloc | apply Kept.drewN | apply Kept.drew) | exact HK.out)⟩, ⟨by (with_reducible repeat first | exact HB.out | apply zH | apply zF | apply zG) <;> exact HB.out⟩⟩
    ·rw [if_neg c5] at H
     exact absurd H (by simp)
   ·rw [if_neg c3] at H
    have c3b0 : decide (x5_1 < (x0_1.length : Int)) = false := decide_eq_false c3; clear c3; simp only [Option.some.injEq, Prod.mk.injEq] at H; obtain ⟨rfl, rfl⟩ := H; obtain ⟨Ao11, co11, eo11⟩ := Kd.R_slice HO_0.out; subst eo11; go_wp2; go_ret; exact ⟨by first | rfl | (simp <;> rfl) | (simp [*] <;> rfl), by (with_reducible repeat first | apply zQ | apply zR | apply zS); exact HO_0.out, by (with_reducible repeat first | exact HB.out | apply zH | apply zF | apply zG) <;> exact HB.out, by repeat (first | (with_reducible first | exact HK.out | apply Kept.alloc | apply Kept.drewN | apply Kept.drew) | exact HK.out)⟩
def laws_markIntS.l0 : Nat → List Int → Int → Int → Option (Int × List Int)
 | 0, _, _, _ => none
 | k + 1, x0, x1, x5 => if x5 < (x0.length : Int) then (if 0 ≤ x5 then (laws_markIntS.l0 k (x0.set (x5 : Int).toNat x1) (wrap64 (x1 + 1)) (wrap64 (x5 + 1))) else (none)) else (some (x1, x0))
def laws_markIntS.f (k : Nat) (l0 : List Int) (a1 : Int) : Option (Int × List Int) := laws_markIntS.l0 k l0 a1 0
theorem laws_markIntS.calls (k : Nat) (P0_ : Nat → Prop) (u9000_ : Value) (l0 : List Int) (a1 : Int) (r1 : Int) (r2 : List Int) (w0 w : World) (hB : Below w0.heap.size w0 w) (ho0 : Kd.R (Kd.int .i64) 3 w w0.heap.size P0_ u9000_ l0) (h : laws_markIntS.f k l0 a1 = some (r1, r2)) :
  Calls Try.prog 48 #[u9000_, .int .i64 a1] w fun e w' => e = .returned (.int .i64 r1) ∧ Kd.R (Kd.int .i64) 3 w' w0.heap.size (fun k_ => (P0_ k_ ∨ w.heap.size ≤ k_)) u9000_ r2 ∧ Below w0.heap.size w0 w' ∧ Kept w w' (fun k_ => P0_ k_) := by
 have HO0 := zA (show Kd.R (Kd.int .i64) 3 w w0.heap.size (fun k_ => (P0_ k_ ∨ w.heap.size ≤ k_)) u9000_ l0 from yC ho0 (fun k_ hk => (.inl hk))); have HK := zA (Kept.refl w (fun k_ => P0_ k_)); have HW0 := zA hB.size; have HB := zA hB; clear hB; have H : (laws_markIntS.l0 k l0 a1 0) = some (r1, r2) := h; clear h; have H' := zA H; clear H; go_enter Try.func48, Try.ntmps48; go_wp2; go_loopg [1, 5] k (fun kq v1 v5 w' => ∃ (x0_1 : List Int) (x1_1 : Int) (x5_1 : Int), v1 = .int .i64 x1_1 ∧ v5 = .int .i64 x5_1 ∧ Aside0 (laws_markIntS.l0 kq x0_1 x1_1 x5_1 = some (r1, r2)) ∧ Aside0 (kq ≤ k) ∧ Aside0 (Kd.R (Kd.int .i64) 3 w' w0.heap.size (fun k_ => (P0_ k_ ∨ w.heap.size ≤ k_)) u9000_ x0_1) ∧ Aside0 (Kept w w' (fun k_ => P0_ k_)) ∧ Aside0 (Below w0.heap.size w0 w'))
 case atStart => exact ⟨(l0), (a1), (0), (by first | rfl | (simp; done) | (simp [*]; done) | (simp [bne]; done)), (by first | rfl | (simp; done) | (simp [*]; done) | (simp [bne]; done)), H', ⟨Nat.le_refl _⟩, ⟨by (with_reducible repeat first | apply zQ | apply zR | apply zS); exact HO0.out⟩, ⟨by repeat (first | (with_reducible first | exact HK.out | apply Kept.alloc | apply Kept.drewN | apply Kept.drew) | exact HK.out)⟩, ⟨by (with_reducible repeat first | exact HB.out | apply zH | apply zF | apply zG) <;> exact HB.out⟩⟩
 case round =>
  clear H'
  try clear p2
  obtain ⟨x0_1, x1_1, x5_1, rfl, rfl, HA, HK1, HO_0, HK, HB⟩ := hrel
  cases gk with
  | zero => exact absurd HA.out (by simp [laws_markIntS.l0])
  | succ k1 =>
   have H := HA.out; clear HA; simp only [laws_markIntS.l0] at H
   by_cases c3 : x5_1 < (x0_1.length : Int)
   ·rw [if_pos c3] at H
    have c3b0 : decide (x5_1 < (x0_1.length : Int)) = true := zX c3; clear c3
    by_cases c4 : 0 ≤ x5_1
    ·rw [if_pos c4] at H
     have c4b0 : decide (0 ≤ x5_1) = true := zX c4; clear c4; obtain ⟨y10, hy10⟩ : ∃ y_ : List Int, y_ = (x0_1.set (x5_1 : Int).toNat x1_1) := ⟨_, rfl⟩; replace H : (laws_markIntS.l0 k1 y10 (wrap64 (x1_1 + 1)) (wrap64 (x5_1 + 1))) = some (r1, r2) := by first | (rw [hy10]; with_reducible exact H) | (have H2_ := (Option.bind_some _ _).symm.trans H; rw [hy10]; with_reducible exact H2_) | (have H2_ := (Option.bind_some _ _).symm.trans H; with_reducible exact H2_) | with_reducible exact H | (rw [hy10]; exact H) | exact H
     have Ny10 := zA hy10; clear hy10; have H' := zA H; clear H; obtain ⟨Ao6, co6, eo6⟩ := Kd.R_slice HO_0.out; subst eo6; have p5 : 0 ≤ (x5_1 : Int) := zW (by first | (with_reducible assumption) | assumption); have q5 : (x5_1 : Int) < ((x0_1.length : Int) : Int) := zW (by first | (with_reducible assumption) | assumption); obtain ⟨go5, co5, eo5, gb5, gl5, cl5, HG5⟩ := Kd.R_form HO_0.out (by omega); (first | cases eo5 | (injection eo5 with ea_ en_ ec_; (first | subst ea_ | (injection ea_ with ea_; subst ea_)); subst ec_; clear en_)); have GB5 := zA gb5; have GG5 := zA HG5; clear gb5 gl5 HG5; have HMgo5 := zA (show (P0_ go5 ∨ w.heap.size ≤ go5) from (HO_0.out.1 _ rfl)); obtain ⟨hx5_0, hf5_0⟩ := Kd.R_celln 0 HO_0.out (x5_1 : Int) p5 q5; replace p5 := eq_true p5; replace q5 := eq_true q5; have HP7 := Kd.R_putg HO_0.out (x5_1 : Int) x1_1; go_wp2_with (first | ((with_reducible refine gate_store (t := 3) (p := 15) rfl ?_); refine store_event (t := 3) (p := 15) (v := ?vo_w8) (w1 := (wr.setCell ⟨go5, (x5_1 : Int).toNat, none⟩ (.int .i64 x1_1))) ?hg ?ho ?hn ?hr ?_; (case ho => rfl); (case hg => rfl); (case hn => rfl); (case hr => first | (go_simp; done) | (go_simp; rfl)); intro w8 hw; have hg : wr.grownBy w8 (some go5) := (by rw [hw]; exact HP7.2); have hp_ : Kd.R (Kd.int .i64) 3 w8 w0.heap.size (fun k_ => (P0_ k_ ∨ w.heap.size ≤ k_)) (.slice (some ⟨go5, 0, none⟩) x0_1.length co6) y10 := (by rw [hw, Ny10.out]; exact HP7.1); clear HP7; have n0_ := zA (hp_); have n1_ := zA ((by rw [hw]; exact zI (HB.out) GB5.out : Below w0.heap.size w0 w8)); have n2_ := zA (Kept.of_grown (S := (fun k_ => P0_ k_)) hg (by repeat (first | (with_reducible first | exact HK.out | apply Kept.alloc | apply Kept.drewN | apply Kept.drew) | exact HK.out)) (fun k_ e_ => (HO_0.out.1 k_ e_))); clear HO_0; clear HB; clear HK; have HO_0 := n0_; have HB := n1_; have HK := n2_; clear n0_ n1_ n2_; clear hg hw hp_)); go_roundg k1
     case measure => have := HK1.out; omega
     case rel => exact ⟨(y10), (wrap64 (x1_1 + 1)), (wrap64 (x5_1 + 1)), (by first | rfl | (simp; done) | (simp [*]; done) | (simp [bne]; done)), (by first | rfl | (simp; done) | (simp [*]; done) | (simp [bne]; done)), H', ⟨by have := HK1.out; omega⟩, ⟨by (with_reducible repeat first | apply zQ | apply zR | apply zS); exact HO_0.out⟩, ⟨by repeat (first | (with_reducible first | exact HK.out | apply Kept.alloc | apply Kept.drewN | apply Kept.drew) | exact HK.out)⟩, ⟨by (with_reducible repeat first | exact HB.out | apply zH | apply zF | apply zG) <;> exact HB.out⟩⟩
    ·rw [if_neg c4] at H
     exact absurd H (by simp)
   ·rw [if_neg c3] at H
    have c3b0 : decide (x5_1 < (x0_1.length : Int)) = false := decide_eq_false c3; clear c3; simp only [Option.some.injEq, Prod.mk.injEq] at H; obtain ⟨rfl, rfl⟩ := H; obtain ⟨Ao9, co9, eo9⟩ := Kd.R_slice HO_0.out; subst eo9; go_wp2; go_ret; exact ⟨by first | rfl | (simp <;> rfl) | (simp [*] <;> rfl), by (with_reducible repeat first | apply zQ | apply zR | apply zS); exact HO_0.out, by (with_reducible repeat first | exact HB.out | apply zH | apply zF | apply zG) <;> exact HB.out, by repeat (first | (with_reducible first | exact HK.out | apply Kept.alloc | apply Kept.drewN | apply Kept.drew) | exact HK.out)⟩
def laws_heldStringS.l0 : Nat → List ByteArray → Int → Int → Option (Int)
 | 0, _, _, _ => none
 | k + 1, x0, x1, x5 => if x5 < (x0.length : Int) then (if 0 ≤ x5 then ((laws_markText.f k x1).bind fun t10 => (if (rdOf ByteArray.empty x0 x5).toList = t10.toList then (laws_heldStringS.l0 k x0 (wrap64 (x1 + 1)) (wrap64 (x5 + 1))) else (some (-1)))) else (none)) else (some x1)
def laws_heldStringS.f (k : Nat) (l0 : List ByteArray) (a1 : Int) : Option (Int) := laws_heldStringS.l0 k l0 a1 0
theorem laws_heldStringS.calls (k : Nat) (A0 : Option Addr) (c0 : Nat) (l0 : List ByteArray) (a1 : Int) (r : Int) (w : World) (hr0 : Kd.C Kd.string w A0 l0.length l0) (hc0 : l0.length ≤ c0) (h : laws_heldStringS.f k l0 a1 = some r) :
  Calls Try.prog 40 #[.slice A0 l0.length c0, .int .i64 a1] w fun e w' => e = .returned (.int .i64 r) ∧ Below w.heap.size w w' := by
 have HR0 := zA hr0; have HC0 := zA hc0; clear hr0 hc0; have HB := zA (Below.refl w.heap.size w); have H : (laws_heldStringS.l0 k l0 a1 0) = some r := h; clear h; have H' := zA H; clear H; go_enter Try.func40, Try.ntmps40; go_wp2; go_loopg [1, 5] k (fun kq v1 v5 w' => ∃ (x1_1 : Int) (x5_1 : Int), v1 = .int .i64 x1_1 ∧ v5 = .int .i64 x5_1 ∧ Aside0 (laws_heldStringS.l0 kq l0 x1_1 x5_1 = some r) ∧ Aside0 (kq ≤ k) ∧ Aside0 (Below w.heap.size w w'))
 case atStart => exact ⟨(a1), (0), (by first | rfl | (simp; done) | (simp [*]; done) | (simp [bne]; done)), (by first | rfl | (simp; done) | (simp [*]; done) | (simp [bne]; done)), H', ⟨Nat.le_refl _⟩, ⟨by (with_reducible repeat first | exact HB.out | apply zH | apply zF | apply zG) <;> exact HB.out⟩⟩
 case round =>
  clear H'
  try clear p2
  obtain ⟨x1_1, x5_1, rfl, rfl, HA, HK1, HB⟩ := hrel
  cases gk with
  | zero => exact absurd HA.out (by simp [laws_heldStringS.l0])
  | succ k1 =>
   have H := HA.out; clear HA; simp only [laws_heldStringS.l0] at H
   by_cases c3 : x5_1 < (l0.length : Int)
   ·rw [if_pos c3] at H
    have c3b0 : decide (x5_1 < (l0.length : Int)) = true := zX c3; clear c3
    by_cases c4 : 0 ≤ x5_1
    ·rw [if_pos c4] at H
     have c4b0 : decide (0 ≤ x5_1) = true := zX c4; clear c4; replace H := zAF H; obtain ⟨t11, A50, H⟩ := H; replace H : (if (rdOf ByteArray.empty l0 x5_1).toList = t11.toList then (laws_heldStringS.l0 k1 l0 (wrap64 (x1_1 + 1)) (wrap64 (x5_1 + 1))) else (some (-1))) = some r := H; have A5 := zA A50; clear A50
     by_cases c6 : (rdOf ByteArray.empty l0 x5_1).toList = t11.toList
     ·rw [if_pos c6] at H
      have c6b0 : ((rdOf ByteArray.empty l0 x5_1).toList == t11.toList) = true := beq_iff_eq.mpr c6; have c6b1 : ((rdOf ByteArray.empty l0 x5_1).toList != t11.toList) = false := bne_eq_false_iff_eq.mpr c6; clear c6; have H' := zA H; clear H
      try go_wp2
      have n0_ := zA (zG HB.out); clear HB; have HB := n0_; clear n0_; have p12 : 0 ≤ (x5_1 : Int) := zW (by first | (with_reducible assumption) | assumption); have q12 : x5_1 < (l0.length : Int) := zW (by first | (with_reducible assumption) | assumption); obtain ⟨ad12, e12, hx12_0⟩ := Kd.at_string HR0.out x5_1 p12 q12; have hw12_0 := hx12_0
      cases e12
      replace hx12_0 := (HB.out.cell (zB w _ hx12_0)).trans hx12_0; replace p12 := eq_true p12; replace q12 := eq_true q12; refine start_ (n := 7) (S := fun w' => w'.cell? (ad12.add (x5_1).toNat) = some (.string (rdOf ByteArray.empty l0 x5_1))) (ds := []) (bA 7 0) (by kernel_rfl) rfl rfl (((HB.out.cell (zB w _ hw12_0)).trans hw12_0)) (fun hHeld => ?_); generalize wr.drew = w7 at HB hx12_0 hHeld ⊢; refine pure_ (i := 0) (N := some 12) (v := ?_) (a' := ?_) (bA 7 1) rfl rfl (by kernel_rfl) (fun _ _ _ h => h) (Or.inl ⟨by rfl, ?_⟩) ?_ ?_; rotate_left
      ·intro w'
       go_simp
       with_reducible rfl
      rotate_left
      ·simp only [Act.put, zC, zD, zE, i64_w]
       rfl
      refine pure_ (i := 1) (N := some 13) (v := ?_) (a' := ?_) (bA 7 3) rfl rfl (by kernel_rfl) (fun _ _ _ h => h) (Or.inl ⟨by rfl, ?_⟩) ?_ ?_; rotate_left
      ·intro w'
       go_simp
       with_reducible rfl
      rotate_left
      ·simp only [Act.put, zC, zD, zE, i64_w]
       rfl
      refine pure_ (i := 2) (N := some 14) (v := ?_) (a' := ?_) (bA 7 7) rfl rfl (by kernel_rfl) (fun _ _ _ h => h) (Or.inl ⟨by rfl, ?_⟩) ?_ ?_; rotate_left
      ·intro w'
       go_simp
       with_reducible rfl
      rotate_left
      ·simp only [Act.put, zC, zD, zE, i64_w]
       rfl
      refine pure_ (i := 4) (N := some 16) (v := ?_) (a' := ?_) (bA 7 23) rfl rfl (by kernel_rfl) (fun _ _ _ h => h) (Or.inl ⟨by rfl, ?_⟩) ?_ ?_; rotate_left
      ·intro w'
       go_simp
       with_reducible rfl
      rotate_left
      ·simp only [Act.put, zC, zD, zE, i64_w]
       rfl
      refine take_ (i := 3) (N := some 15) (v := ?_) (a' := ?_) (bA 7 31) rfl rfl (by kernel_rfl) (fun _ _ _ h => h) (Or.inl ⟨by rfl, ?_⟩) hHeld ?_ ?_; rotate_left
      ·intro w' s0
       go_simp
       with_reducible rfl
      rotate_left
      ·simp only [Act.put, zC, zD, zE, i64_w]
       rfl
      refine one_ (i := 5) (N := some 17) (bA 7 63) rfl rfl (by kernel_rfl) (by decide) (fun K hK => ?_); refine goes_ Try.func74 (by kernel_rfl) rfl #[.int .i64 x1_1] (by rfl) rfl rfl (by (try simp only [zAA, zAB, zAC]); first | done | rfl) ?_
      with_reducible refine (laws_markText.calls k1 x1_1 t11 _ A5.out).mono ?_
      rintro e w8 ⟨rfl, hb⟩; refine ⟨_, rfl, ?_⟩; have n0_ := zA (zAD (by (with_reducible repeat first | exact HB.out | apply zH | apply zF | apply zG) <;> exact HB.out) hb); clear HB; have HB := n0_; clear n0_; (try clear hb); refine hK.out _ _ (((HB.out.cell (zB w _ hw12_0)).trans hw12_0)) (fun hHeld => ?_); clear hK K; refine wzN 17 ?_
      refine pure_ (i := 6) (N := some 18) (v := ?_) (a' := ?_) (bA 7 127) rfl rfl (by kernel_rfl) (fun _ _ _ h => h) (Or.inl ⟨by rfl, ?_⟩) ?_ ?_; rotate_left
      ·intro w'
       go_simp
       with_reducible rfl
      rotate_left
      ·simp only [Act.put, zC, zD, zE, i64_w]
       rfl
      refine done_ (by kernel_rfl) ?_
      try go_wp2
      go_roundg k1
      case measure => have := HK1.out; omega
      case rel => exact ⟨(wrap64 (x1_1 + 1)), (wrap64 (x5_1 + 1)), (by first | rfl | (simp; done) | (simp [*]; done) | (simp [bne]; done)), (by first | rfl | (simp; done) | (simp [*]; done) | (simp [bne]; done)), H', ⟨by have := HK1.out; omega⟩, ⟨by (with_reducible repeat first | exact HB.out | apply zH | apply zF | apply zG) <;> exact HB.out⟩⟩
     ·rw [if_neg c6] at H
      have c6b0 : ((rdOf ByteArray.empty l0 x5_1).toList == t11.toList) = false := beq_eq_false_iff_ne.mpr c6; have c6b1 : ((rdOf ByteArray.empty l0 x5_1).toList != t11.toList) = true := bne_iff_ne.mpr c6; obtain rfl := yM H
      try go_wp2
      have n0_ := zA (zG HB.out); clear HB; have HB := n0_; clear n0_; have p12 : 0 ≤ (x5_1 : Int) := zW (by first | (with_reducible assumption) | assumption); have q12 : x5_1 < (l0.length : Int) := zW (by first | (with_reducible assumption) | assumption); obtain ⟨ad12, e12, hx12_0⟩ := Kd.at_string HR0.out x5_1 p12 q12; have hw12_0 := hx12_0
      cases e12
      replace hx12_0 := (HB.out.cell (zB w _ hx12_0)).trans hx12_0; replace p12 := eq_true p12; replace q12 := eq_true q12; refine start_ (n := 7) (S := fun w' => w'.cell? (ad12.add (x5_1).toNat) = some (.string (rdOf ByteArray.empty l0 x5_1))) (ds := []) (bA 7 0) (by kernel_rfl) rfl rfl (((HB.out.cell (zB w _ hw12_0)).trans hw12_0)) (fun hHeld => ?_); generalize wr.drew = w9 at HB hx12_0 hHeld ⊢; refine pure_ (i := 0) (N := some 12) (v := ?_) (a' := ?_) (bA 7 1) rfl rfl (by kernel_rfl) (fun _ _ _ h => h) (Or.inl ⟨by rfl, ?_⟩) ?_ ?_; rotate_left
      ·intro w'
       go_simp
       with_reducible rfl
      rotate_left
      ·simp only [Act.put, zC, zD, zE, i64_w]
       rfl
      refine pure_ (i := 1) (N := some 13) (v := ?_) (a' := ?_) (bA 7 3) rfl rfl (by kernel_rfl) (fun _ _ _ h => h) (Or.inl ⟨by rfl, ?_⟩) ?_ ?_; rotate_left
      ·intro w'
       go_simp
       with_reducible rfl
      rotate_left
      ·simp only [Act.put, zC, zD, zE, i64_w]
       rfl
      refine pure_ (i := 2) (N := some 14) (v := ?_) (a' := ?_) (bA 7 7) rfl rfl (by kernel_rfl) (fun _ _ _ h => h) (Or.inl ⟨by rfl, ?_⟩) ?_ ?_; rotate_left
      ·intro w'
       go_simp
       with_reducible rfl
      rotate_left
      ·simp only [Act.put, zC, zD, zE, i64_w]
       rfl
      refine pure_ (i := 4) (N := some 16) (v := ?_) (a' := ?_) (bA 7 23) rfl rfl (by kernel_rfl) (fun _ _ _ h => h) (Or.inl ⟨by rfl, ?_⟩) ?_ ?_; rotate_left
      ·intro w'
       go_simp
       with_reducible rfl
      rotate_left
      ·simp only [Act.put, zC, zD, zE, i64_w]
       rfl
      refine take_ (i := 3) (N := some 15) (v := ?_) (a' := ?_) (bA 7 31) rfl rfl (by kernel_rfl) (fun _ _ _ h => h) (Or.inl ⟨by rfl, ?_⟩) hHeld ?_ ?_; rotate_left
      ·intro w' s0
       go_simp
       with_reducible rfl
      rotate_left
      ·simp only [Act.put, zC, zD, zE, i64_w]
       rfl
      refine one_ (i := 5) (N := some 17) (bA 7 63) rfl rfl (by kernel_rfl) (by decide) (fun K hK => ?_); refine goes_ Try.func74 (by kernel_rfl) rfl #[.int .i64 x1_1] (by rfl) rfl rfl (by (try simp only [zAA, zAB, zAC]); first | done | rfl) ?_
      with_reducible refine (laws_markText.calls k1 x1_1 t11 _ A5.out).mono ?_
      rintro e w10 ⟨rfl, hb⟩; refine ⟨_, rfl, ?_⟩; have n0_ := zA (zAD (by (with_reducible repeat first | exact HB.out | apply zH | apply zF | apply zG) <;> exact HB.out) hb); clear HB; have HB := n0_; clear n0_; (try clear hb); refine hK.out _ _ (((HB.out.cell (zB w _ hw12_0)).trans hw12_0)) (fun hHeld => ?_); clear hK K; refine wzN 17 ?_
      refine pure_ (i := 6) (N := some 18) (v := ?_) (a' := ?_) (bA 7 127) rfl rfl (by kernel_rfl) (fun _ _ _ h => h) (Or.inl ⟨by rfl, ?_⟩) ?_ ?_; rotate_left
      ·intro w'
       go_simp
       with_reducible rfl
      rotate_left
      ·simp only [Act.put, zC, zD, zE, i64_w]
       rfl
      refine done_ (by kernel_rfl) ?_
      try go_wp2
      go_ret; exact ⟨by first | rfl | (simp <;> rfl) | (simp [*] <;> rfl), by (with_reducible repeat first | exact HB.out | apply zH | apply zF | apply zG) <;> exact HB.out⟩
    ·rw [if_neg c4] at H
     exact absurd H (by simp)
   ·rw [if_neg c3] at H
    have c3b0 : decide (x5_1 < (l0.length : Int)) = false := decide_eq_false c3; clear c3; obtain rfl := yM H; go_wp2; go_ret; exact ⟨by first | rfl | (simp <;> rfl) | (simp [*] <;> rfl), by (with_reducible repeat first | exact HB.out | apply zH | apply zF | apply zG) <;> exact HB.out⟩
def laws_heldShownS.l0 : Nat → List (S43) → Int → Int → Option (Int)
 | 0, _, _, _ => none
 | k + 1, x0, x1, x5 => if x5 < (x0.length : Int) then (if 0 ≤ x5 then ((laws_heldStringS.f k ((rd_T43 x0 x5).f0) x1).bind fun t10 => (if t10 < 0 then (some (-1)) else ((laws_heldStringS.f k ((rd_T43 x0 x5).f1) t10).bind fun t11 => (if t11 < 0 then (some (-1)) else ((laws_heldStringS.f k ((rd_T43 x0 x5).f2) t11).bind fun t12 => (if t12 < 0 then (some (-1)) else (if ((rd_T43 x0 x5).f3) = t12 then (laws_heldShownS.l0 k x0 (wrap64 (t12 + 1)) (wrap64 (x5 + 1))) else (some (-1))))))))) else (none)) else (some x1)
def laws_heldShownS.f (k : Nat) (l0 : List (S43)) (a1 : Int) : Option (Int) := laws_heldShownS.l0 k l0 a1 0
theorem laws_heldShownS.calls (k : Nat) (A0 : Option Addr) (c0 : Nat) (l0 : List (S43)) (a1 : Int) (r : Int) (w : World) (hr0 : Kd.C k43 w A0 l0.length l0) (hc0 : l0.length ≤ c0) (h : laws_heldShownS.f k l0 a1 = some r) :
  Calls Try.prog 16 #[.slice A0 l0.length c0, .int .i64 a1] w fun e w' => e = .returned (.int .i64 r) ∧ Below w.heap.size w w' := by
 have HR0 := zA hr0; have HC0 := zA hc0; clear hr0 hc0; have HB := zA (Below.refl w.heap.size w); have H : (laws_heldShownS.l0 k l0 a1 0) = some r := h; clear h; have H' := zA H; clear H; go_enter Try.func16, Try.ntmps16; go_wp2; go_loopg [1, 5] k (fun kq v1 v5 w' => ∃ (x1_1 : Int) (x5_1 : Int), v1 = .int .i64 x1_1 ∧ v5 = .int .i64 x5_1 ∧ Aside0 (laws_heldShownS.l0 kq l0 x1_1 x5_1 = some r) ∧ Aside0 (kq ≤ k) ∧ Aside0 (Below w.heap.size w w'))
 case atStart => exact ⟨(a1), (0), rfl, rfl, H', ⟨Nat.le_refl _⟩, ⟨HB.out⟩⟩
 case round =>
  clear H'
  try clear c1
  try clear p2
  obtain ⟨x1_1, x5_1, rfl, rfl, HA, HK1, HB⟩ := hrel
  cases gk with
  | zero => exact absurd HA.out (by simp [laws_heldShownS.l0])
  | succ k1 =>
   have H := HA.out; clear HA; simp only [laws_heldShownS.l0] at H
   by_cases c3 : x5_1 < (l0.length : Int)
   ·rw [if_pos c3] at H
    have c3b0 : decide (x5_1 < (l0.length : Int)) = true := zX c3; clear c3
    by_cases c4 : 0 ≤ x5_1
    ·rw [if_pos c4] at H
     have c4b0 : decide (0 ≤ x5_1) = true := zX c4; clear c4; replace H := zAF H; obtain ⟨t24, A50, H⟩ := H; replace H : (if t24 < 0 then (some (-1)) else ((laws_heldStringS.f k1 ((rd_T43 l0 x5_1).f1) t24).bind fun t25 => (if t25 < 0 then (some (-1)) else ((laws_heldStringS.f k1 ((rd_T43 l0 x5_1).f2) t25).bind fun t26 => (if t26 < 0 then (some (-1)) else (if ((rd_T43 l0 x5_1).f3) = t26 then (laws_heldShownS.l0 k1 l0 (wrap64 (t26 + 1)) (wrap64 (x5_1 + 1))) else (some (-1)))))))) = some r := H; have A5 := zA A50; clear A50
     by_cases c6 : t24 < 0
     ·rw [if_pos c6] at H
      have c6b0 : decide (t24 < 0) = true := zX c6; clear c6; obtain rfl := yM H; have p27 : 0 ≤ (x5_1 : Int) := zW (by assumption); have q27 : x5_1 < (l0.length : Int) := zW (by assumption); obtain ⟨ad27, A27_0, c27_0, A27_1, c27_1, A27_2, c27_2, e27, hx27_0, hx27_1, hx27_2, hx27_3, hl27_0, hi27_0, hl27_1, hi27_1, hl27_2, hi27_2⟩ := at_T43 HR0.out x5_1 p27 q27
      cases e27
      have hy27_0 := zA hx27_0; have hy27_1 := zA hx27_1; have hy27_2 := zA hx27_2; replace hx27_0 := (HB.out.cell (zB w _ hx27_0)).trans hx27_0; replace hx27_1 := (HB.out.cell (zB w _ hx27_1)).trans hx27_1; replace hx27_2 := (HB.out.cell (zB w _ hx27_2)).trans hx27_2; replace hx27_3 := (HB.out.cell (zB w _ hx27_3)).trans hx27_3; have HR27_0 := zA hi27_0; have HC27_0 := zA hl27_0; clear hi27_0 hl27_0; have HR27_1 := zA hi27_1; have HC27_1 := zA hl27_1; clear hi27_1 hl27_1; have HR27_2 := zA hi27_2; have HC27_2 := zA hl27_2; clear hi27_2 hl27_2; replace p27 := eq_true p27; replace q27 := eq_true q27; go_wp2_with (first | ((with_reducible refine yB (f := 40) rfl ?_); refine goesL_ (some 18) rfl rfl Try.func40 (by kernel_rfl) rfl #[.slice A27_0 ((rd_T43 l0 x5_1).f0).length c27_0, .int .i64 x1_1] rfl (by (try simp only [zAA, zAB, zAC]); first | done | rfl | (simp only [zZ, zY]; rfl)) ?_; (with_reducible refine (laws_heldStringS.calls k1 _ _ ((rd_T43 l0 x5_1).f0) x1_1 t24 _ ?side1 ?side2 A5.out).mono ?_); (case side1 => exact (yN HR27_0.out HB.out)); (case side2 => exact HC27_0.out); rintro e w7 ⟨rfl, hb⟩; refine ⟨_, rfl, ?_⟩; have n0_ := zA (zAD HB.out hb); clear HB; have HB := n0_; clear n0_; (try clear hb))); go_ret; exact ⟨by first | rfl | (simp <;> rfl) | (simp [*] <;> rfl), HB.out⟩
     ·rw [if_neg c6] at H
      have c6b0 : decide (t24 < 0) = false := decide_eq_false c6; clear c6; replace H := zAF H; obtain ⟨t25, A80, H⟩ := H; replace H : (if t25 < 0 then (some (-1)) else ((laws_heldStringS.f k1 ((rd_T43 l0 x5_1).f2) t25).bind fun t26 => (if t26 < 0 then (some (-1)) else (if ((rd_T43 l0 x5_1).f3) = t26 then (laws_heldShownS.l0 k1 l0 (wrap64 (t26 + 1)) (wrap64 (x5_1 + 1))) else (some (-1)))))) = some r := H; have A8 := zA A80; clear A80
      by_cases c9 : t25 < 0
      ·rw [if_pos c9] at H
       have c9b0 : decide (t25 < 0) = true := zX c9; clear c9; obtain rfl := yM H; have p27 : 0 ≤ (x5_1 : Int) := zW (by assumption); have q27 : x5_1 < (l0.length : Int) := zW (by assumption); obtain ⟨ad27, A27_0, c27_0, A27_1, c27_1, A27_2, c27_2, e27, hx27_0, hx27_1, hx27_2, hx27_3, hl27_0, hi27_0, hl27_1, hi27_1, hl27_2, hi27_2⟩ := at_T43 HR0.out x5_1 p27 q27
       cases e27
       have hy27_0 := zA hx27_0; have hy27_1 := zA hx27_1; have hy27_2 := zA hx27_2; replace hx27_0 := (HB.out.cell (zB w _ hx27_0)).trans hx27_0; replace hx27_1 := (HB.out.cell (zB w _ hx27_1)).trans hx27_1; replace hx27_2 := (HB.out.cell (zB w _ hx27_2)).trans hx27_2; replace hx27_3 := (HB.out.cell (zB w _ hx27_3)).trans hx27_3; have HR27_0 := zA hi27_0; have HC27_0 := zA hl27_0; clear hi27_0 hl27_0; have HR27_1 := zA hi27_1; have HC27_1 := zA hl27_1; clear hi27_1 hl27_1; have HR27_2 := zA hi27_2; have HC27_2 := zA hl27_2; clear hi27_2 hl27_2; replace p27 := eq_true p27; replace q27 := eq_true q27; go_wp2_with (first | ((with_reducible refine yB (f := 40) rfl ?_); refine goesL_ (some 18) rfl rfl Try.func40 (by kernel_rfl) rfl #[.slice A27_0 ((rd_T43 l0 x5_1).f0).length c27_0, .int .i64 x1_1] rfl (by (try simp only [zAA, zAB, zAC]); first | done | rfl | (simp only [zZ, zY]; rfl)) ?_; (with_reducible refine (laws_heldStringS.calls k1 _ _ ((rd_T43 l0 x5_1).f0) x1_1 t24 _ ?side1 ?side2 A5.out).mono ?_); (case side1 => exact (yN HR27_0.out HB.out)); (case side2 => exact HC27_0.out); rintro e w10 ⟨rfl, hb⟩; refine ⟨_, rfl, ?_⟩; have n0_ := zA (zAD HB.out hb); clear HB; have HB := n0_; clear n0_; (try clear hb); have p28 : 0 ≤ (x5_1 : Int) := zW (by assumption); have q28 : x5_1 < (l0.length : Int) := zW (by assumption); obtain ⟨ad28, A28_0, c28_0, A28_1, c28_1, A28_2, c28_2, e28, hx28_0, hx28_1, hx28_2, hx28_3, hl28_0, hi28_0, hl28_1, hi28_1, hl28_2, hi28_2⟩ := at_T43 HR0.out x5_1 p28 q28; obtain rfl : ad27 = ad28 := (by injection e28); replace hx28_0 := (HB.out.cell (zB w _ hx28_0)).trans hx28_0; replace hx28_1 := (HB.out.cell (zB w _ hx28_1)).trans hx28_1; replace hx28_2 := (HB.out.cell (zB w _ hx28_2)).trans hx28_2; replace hx28_3 := (HB.out.cell (zB w _ hx28_3)).trans hx28_3; have HR28_0 := zA hi28_0; have HC28_0 := zA hl28_0; clear hi28_0 hl28_0; have HR28_1 := zA hi28_1; have HC28_1 := zA hl28_1; clear hi28_1 hl28_1; have HR28_2 := zA hi28_2; have HC28_2 := zA hl28_2; clear hi28_2 hl28_2; replace p28 := eq_true p28; replace q28 := eq_true q28) | ((with_reducible refine yB (f := 40) rfl ?_); refine goesL_ (some 27) rfl rfl Try.func40 (by kernel_rfl) rfl #[.slice A28_1 ((rd_T43 l0 x5_1).f1).length c28_1, .int .i64 t24] rfl (by (try simp only [zAA, zAB, zAC]); first | done | rfl | (simp only [zZ, zY]; rfl)) ?_; (with_reducible refine (laws_heldStringS.calls k1 _ _ ((rd_T43 l0 x5_1).f1) t24 t25 _ ?side1 ?side2 A8.out).mono ?_); (case side1 => exact (yN HR28_1.out HB.out)); (case side2 => exact HC28_1.out); rintro e w11 ⟨rfl, hb⟩; refine ⟨_, rfl, ?_⟩; have n0_ := zA (zAD HB.out hb); clear HB; have HB := n0_; clear n0_; (try clear hb))); go_ret; exact ⟨by first | rfl | (simp <;> rfl) | (simp [*] <;> rfl), HB.out⟩
      ·rw [if_neg c9] at H
       have c9b0 : decide (t25 < 0) = false := decide_eq_false c9; clear c9; replace H := zAF H; obtain ⟨t26, A29, H⟩ := H; replace H : (if t26 < 0 then (some (-1)) else (if ((rd_T43 l0 x5_1).f3) = t26 then (laws_heldShownS.l0 k1 l0 (wrap64 (t26 + 1)) (wrap64 (x5_1 + 1))) else (some (-1)))) = some r := H; have A12 := zA A29; clear A29
       by_cases c13 : t26 < 0
       ·rw [if_pos c13] at H
        have c13b0 : decide (t26 < 0) = true := zX c13; clear c13; obtain rfl := yM H; have p27 : 0 ≤ (x5_1 : Int) := zW (by assumption); have q27 : x5_1 < (l0.length : Int) := zW (by assumption); obtain ⟨ad27, A27_0, c27_0, A27_1, c27_1, A27_2, c27_2, e27, hx27_0, hx27_1, hx27_2, hx27_3, hl27_0, hi27_0, hl27_1, hi27_1, hl27_2, hi27_2⟩ := at_T43 HR0.out x5_1 p27 q27
        cases e27
        have hy27_0 := zA hx27_0; have hy27_1 := zA hx27_1; have hy27_2 := zA hx27_2; replace hx27_0 := (HB.out.cell (zB w _ hx27_0)).trans hx27_0; replace hx27_1 := (HB.out.cell (zB w _ hx27_1)).trans hx27_1; replace hx27_2 := (HB.out.cell (zB w _ hx27_2)).trans hx27_2; replace hx27_3 := (HB.out.cell (zB w _ hx27_3)).trans hx27_3; have HR27_0 := zA hi27_0; have HC27_0 := zA hl27_0; clear hi27_0 hl27_0; have HR27_1 := zA hi27_1; have HC27_1 := zA hl27_1; clear hi27_1 hl27_1; have HR27_2 := zA hi27_2; have HC27_2 := zA hl27_2; clear hi27_2 hl27_2; replace p27 := eq_true p27; replace q27 := eq_true q27; go_wp2_with (first | ((with_reducible refine yB (f := 40) rfl ?_); refine goesL_ (some 18) rfl rfl Try.func40 (by kernel_rfl) rfl #[.slice A27_0 ((rd_T43 l0 x5_1).f0).length c27_0, .int .i64 x1_1] rfl (by (try simp only [zAA, zAB, zAC]); first | done | rfl | (simp only [zZ, zY]; rfl)) ?_; (with_reducible refine (laws_heldStringS.calls k1 _ _ ((rd_T43 l0 x5_1).f0) x1_1 t24 _ ?side1 ?side2 A5.out).mono ?_); (case side1 => exact (yN HR27_0.out HB.out)); (case side2 => exact HC27_0.out); rintro e w14 ⟨rfl, hb⟩; refine ⟨_, rfl, ?_⟩; have n0_ := zA (zAD HB.out hb); clear HB; have HB := n0_; clear n0_; (try clear hb); have p28 : 0 ≤ (x5_1 : Int) := zW (by assumption); have q28 : x5_1 < (l0.length : Int) := zW (by assumption); obtain ⟨ad28, A28_0, c28_0, A28_1, c28_1, A28_2, c28_2, e28, hx28_0, hx28_1, hx28_2, hx28_3, hl28_0, hi28_0, hl28_1, hi28_1, hl28_2, hi28_2⟩ := at_T43 HR0.out x5_1 p28 q28; obtain rfl : ad27 = ad28 := (by injection e28); replace hx28_0 := (HB.out.cell (zB w _ hx28_0)).trans hx28_0; replace hx28_1 := (HB.out.cell (zB w _ hx28_1)).trans hx28_1; replace hx28_2 := (HB.out.cell (zB w _ hx28_2)).trans hx28_2; replace hx28_3 := (HB.out.cell (zB w _ hx28_3)).trans hx28_3; have HR28_0 := zA hi28_0; have HC28_0 := zA hl28_0; clear hi28_0 hl28_0; have HR28_1 := zA hi28_1; have HC28_1 := zA hl28_1; clear hi28_1 hl28_1; have HR28_2 := zA hi28_2; have HC28_2 := zA hl28_2; clear hi28_2 hl28_2; replace p28 := eq_true p28; replace q28 := eq_true q28) | ((with_reducible refine yB (f := 40) rfl ?_); refine goesL_ (some 27) rfl rfl Try.func40 (by kernel_rfl) rfl #[.slice A28_1 ((rd_T43 l0 x5_1).f1).length c28_1, .int .i64 t24] rfl (by (try simp only [zAA, zAB, zAC]); first | done | rfl | (simp only [zZ, zY]; rfl)) ?_; (with_reducible refine (laws_heldStringS.calls k1 _ _ ((rd_T43 l0 x5_1).f1) t24 t25 _ ?side1 ?side2 A8.out).mono ?_); (case side1 => exact (yN HR28_1.out HB.out)); (case side2 => exact HC28_1.out); rintro e w15 ⟨rfl, hb⟩; refine ⟨_, rfl, ?_⟩; have n0_ := zA (zAD HB.out hb); clear HB; have HB := n0_; clear n0_; (try clear hb); have p30 : 0 ≤ (x5_1 : Int) := zW (by assumption); have q30 : x5_1 < (l0.length : Int) := zW (by assumption); obtain ⟨ad30, A30_0, c30_0, A30_1, c30_1, A30_2, c30_2, e30, hx30_0, hx30_1, hx30_2, hx30_3, hl30_0, hi30_0, hl30_1, hi30_1, hl30_2, hi30_2⟩ := at_T43 HR0.out x5_1 p30 q30; obtain rfl : ad27 = ad30 := (by injection e30); replace hx30_0 := (HB.out.cell (zB w _ hx30_0)).trans hx30_0; replace hx30_1 := (HB.out.cell (zB w _ hx30_1)).trans hx30_1; replace hx30_2 := (HB.out.cell (zB w _ hx30_2)).trans hx30_2; replace hx30_3 := (HB.out.cell (zB w _ hx30_3)).trans hx30_3; have HR30_0 := zA hi30_0; have HC30_0 := zA hl30_0; clear hi30_0 hl30_0; have HR30_1 := zA hi30_1; have HC30_1 := zA hl30_1; clear hi30_1 hl30_1; have HR30_2 := zA hi30_2; have HC30_2 := zA hl30_2; clear hi30_2 hl30_2; replace p30 := eq_true p30; replace q30 := eq_true q30) | ((with_reducible refine yB (f := 40) rfl ?_); refine goesL_ (some 36) rfl rfl Try.func40 (by kernel_rfl) rfl #[.slice A30_2 ((rd_T43 l0 x5_1).f2).length c30_2, .int .i64 t25] rfl (by (try simp only [zAA, zAB, zAC]); first | done | rfl | (simp only [zZ, zY]; rfl)) ?_; (with_reducible refine (laws_heldStringS.calls k1 _ _ ((rd_T43 l0 x5_1).f2) t25 t26 _ ?side1 ?side2 A12.out).mono ?_); (case side1 => exact (yN HR30_2.out HB.out)); (case side2 => exact HC30_2.out); rintro e w16 ⟨rfl, hb⟩; refine ⟨_, rfl, ?_⟩; have n0_ := zA (zAD HB.out hb); clear HB; have HB := n0_; clear n0_; (try clear hb)))
        go_ret; exact ⟨by first | rfl | (simp <;> rfl) | (simp [*] <;> rfl), HB.out⟩
       ·rw [if_neg c13] at H
        have c13b0 : decide (t26 < 0) = false := decide_eq_false c13; clear c13
        by_cases c17 : ((rd_T43 l0 x5_1).f3) = t26
        ·rw [if_pos c17] at H
         have c17b0 : (((rd_T43 l0 x5_1).f3) == t26) = true := beq_iff_eq.mpr c17; have c17b1 : (((rd_T43 l0 x5_1).f3) != t26) = false := bne_eq_false_iff_eq.mpr c17; clear c17; have H' := zA H; clear H; have p27 : 0 ≤ (x5_1 : Int) := zW (by assumption); have q27 : x5_1 < (l0.length : Int) := zW (by assumption); obtain ⟨ad27, A27_0, c27_0, A27_1, c27_1, A27_2, c27_2, e27, hx27_0, hx27_1, hx27_2, hx27_3, hl27_0, hi27_0, hl27_1, hi27_1, hl27_2, hi27_2⟩ := at_T43 HR0.out x5_1 p27 q27
         cases e27
         have hy27_0 := zA hx27_0; have hy27_1 := zA hx27_1; have hy27_2 := zA hx27_2; replace hx27_0 := (HB.out.cell (zB w _ hx27_0)).trans hx27_0; replace hx27_1 := (HB.out.cell (zB w _ hx27_1)).trans hx27_1; replace hx27_2 := (HB.out.cell (zB w _ hx27_2)).trans hx27_2; replace hx27_3 := (HB.out.cell (zB w _ hx27_3)).trans hx27_3; have HR27_0 := zA hi27_0; have HC27_0 := zA hl27_0; clear hi27_0 hl27_0; have HR27_1 := zA hi27_1; have HC27_1 := zA hl27_1; clear hi27_1 hl27_1; have HR27_2 := zA hi27_2; have HC27_2 := zA hl27_2; clear hi27_2 hl27_2; replace p27 := eq_true p27; replace q27 := eq_true q27; go_wp2_with (first | ((with_reducible refine yB (f := 40) rfl ?_); refine goesL_ (some 18) rfl rfl Try.func40 (by kernel_rfl) rfl #[.slice A27_0 ((rd_T43 l0 x5_1).f0).length c27_0, .int .i64 x1_1] rfl (by (try simp only [zAA, zAB, zAC]); first | done | rfl | (simp only [zZ, zY]; rfl)) ?_; (with_reducible refine (laws_heldStringS.calls k1 _ _ ((rd_T43 l0 x5_1).f0) x1_1 t24 _ ?side1 ?side2 A5.out).mono ?_); (case side1 => exact (yN HR27_0.out HB.out)); (case side2 => exact HC27_0.out); rintro e w18 ⟨rfl, hb⟩; refine ⟨_, rfl, ?_⟩; have n0_ := zA (zAD HB.out hb); clear HB; have HB := n0_; clear n0_; (try clear hb); have p28 : 0 ≤ (x5_1 : Int) := zW (by assumption); have q28 : x5_1 < (l0.length : Int) := zW (by assumption); obtain ⟨ad28, A28_0, c28_0, A28_1, c28_1, A28_2, c28_2, e28, hx28_0, hx28_1, hx28_2, hx28_3, hl28_0, hi28_0, hl28_1, hi28_1, hl28_2, hi28_2⟩ := at_T43 HR0.out x5_1 p28 q28; obtain rfl : ad27 = ad28 := (by injection e28); replace hx28_0 := (HB.out.cell (zB w _ hx28_0)).trans hx28_0; replace hx28_1 := (HB.out.cell (zB w _ hx28_1)).trans hx28_1; replace hx28_2 := (HB.out.cell (zB w _ hx28_2)).trans hx28_2; replace hx28_3 := (HB.out.cell (zB w _ hx28_3)).trans hx28_3; have HR28_0 := zA hi28_0; have HC28_0 := zA hl28_0; clear hi28_0 hl28_0; have HR28_1 := zA hi28_1; have HC28_1 := zA hl28_1; clear hi28_1 hl28_1; have HR28_2 := zA hi28_2; have HC28_2 := zA hl28_2; clear hi28_2 hl28_2; replace p28 := eq_true p28; replace q28 := eq_true q28) | ((with_reducible refine yB (f := 40) rfl ?_); refine goesL_ (some 27) rfl rfl Try.func40 (by kernel_rfl) rfl #[.slice A28_1 ((rd_T43 l0 x5_1).f1).length c28_1, .int .i64 t24] rfl (by (try simp only [zAA, zAB, zAC]); first | done | rfl | (simp only [zZ, zY]; rfl)) ?_; (with_reducible refine (laws_heldStringS.calls k1 _ _ ((rd_T43 l0 x5_1).f1) t24 t25 _ ?side1 ?side2 A8.out).mono ?_); (case side1 => exact (yN HR28_1.out HB.out)); (case side2 => exact HC28_1.out); rintro e w19 ⟨rfl, hb⟩; refine ⟨_, rfl, ?_⟩; have n0_ := zA (zAD HB.out hb); clear HB; have HB := n0_; clear n0_; (try clear hb); have p30 : 0 ≤ (x5_1 : Int) := zW (by assumption); have q30 : x5_1 < (l0.length : Int) := zW (by assumption); obtain ⟨ad30, A30_0, c30_0, A30_1, c30_1, A30_2, c30_2, e30, hx30_0, hx30_1, hx30_2, hx30_3, hl30_0, hi30_0, hl30_1, hi30_1, hl30_2, hi30_2⟩ := at_T43 HR0.out x5_1 p30 q30; obtain rfl : ad27 = ad30 := (by injection e30); replace hx30_0 := (HB.out.cell (zB w _ hx30_0)).trans hx30_0; replace hx30_1 := (HB.out.cell (zB w _ hx30_1)).trans hx30_1; replace hx30_2 := (HB.out.cell (zB w _ hx30_2)).trans hx30_2; replace hx30_3 := (HB.out.cell (zB w _ hx30_3)).trans hx30_3; have HR30_0 := zA hi30_0; have HC30_0 := zA hl30_0; clear hi30_0 hl30_0; have HR30_1 := zA hi30_1; have HC30_1 := zA hl30_1; clear hi30_1 hl30_1; have HR30_2 := zA hi30_2; have HC30_2 := zA hl30_2; clear hi30_2 hl30_2; replace p30 := eq_true p30; replace q30 := eq_true q30) | ((with_reducible refine yB (f := 40) rfl ?_); refine goesL_ (some 36) rfl rfl Try.func40 (by kernel_rfl) rfl #[.slice A30_2 ((rd_T43 l0 x5_1).f2).length c30_2, .int .i64 t25] rfl (by (try simp only [zAA, zAB, zAC]); first | done | rfl | (simp only [zZ, zY]; rfl)) ?_; (with_reducible refine (laws_heldStringS.calls k1 _ _ ((rd_T43 l0 x5_1).f2) t25 t26 _ ?side1 ?side2 A12.out).mono ?_); (case side1 => exact (yN HR30_2.out HB.out)); (case side2 => exact HC30_2.out); rintro e w20 ⟨rfl, hb⟩; refine ⟨_, rfl, ?_⟩; have n0_ := zA (zAD HB.out hb); clear HB; have HB := n0_; clear n0_; (try clear hb); have p31 : 0 ≤ (x5_1 : Int) := zW (by assumption); have q31 : x5_1 < (l0.length : Int) := zW (by assumption); obtain ⟨ad31, A31_0, c31_0, A31_1, c31_1, A31_2, c31_2, e31, hx31_0, hx31_1, hx31_2, hx31_3, hl31_0, hi31_0, hl31_1, hi31_1, hl31_2, hi31_2⟩ := at_T43 HR0.out x5_1 p31 q31; obtain rfl : ad27 = ad31 := (by injection e31); replace hx31_0 := (HB.out.cell (zB w _ hx31_0)).trans hx31_0; replace hx31_1 := (HB.out.cell (zB w _ hx31_1)).trans hx31_1; replace hx31_2 := (HB.out.cell (zB w _ hx31_2)).trans hx31_2; replace hx31_3 := (HB.out.cell (zB w _ hx31_3)).trans hx31_3; have HR31_0 := zA hi31_0; have HC31_0 := zA hl31_0; clear hi31_0 hl31_0; have HR31_1 := zA hi31_1; have HC31_1 := zA hl31_1; clear hi31_1 hl31_1; have HR31_2 := zA hi31_2; have HC31_2 := zA hl31_2; clear hi31_2 hl31_2; replace p31 := eq_true p31; replace q31 := eq_true q31))
         go_roundg k1
         case measure => have := HK1.out; omega
         case rel => exact ⟨(wrap64 (t26 + 1)), (wrap64 (x5_1 + 1)), rfl, rfl, H', ⟨by have := HK1.out; omega⟩, ⟨HB.out⟩⟩
        ·rw [if_neg c17] at H
         have c17b0 : (((rd_T43 l0 x5_1).f3) == t26) = false := beq_eq_false_iff_ne.mpr c17; have c17b1 : (((rd_T43 l0 x5_1).f3) != t26) = true := bne_iff_ne.mpr c17; obtain rfl := yM H; have p27 : 0 ≤ (x5_1 : Int) := zW (by assumption); have q27 : x5_1 < (l0.length : Int) := zW (by assumption); obtain ⟨ad27, A27_0, c27_0, A27_1, c27_1, A27_2, c27_2, e27, hx27_0, hx27_1, hx27_2, hx27_3, hl27_0, hi27_0, hl27_1, hi27_1, hl27_2, hi27_2⟩ := at_T43 HR0.out x5_1 p27 q27
         cases e27
         have hy27_0 := zA hx27_0; have hy27_1 := zA hx27_1; have hy27_2 := zA hx27_2; replace hx27_0 := (HB.out.cell (zB w _ hx27_0)).trans hx27_0; replace hx27_1 := (HB.out.cell (zB w _ hx27_1)).trans hx27_1; replace hx27_2 := (HB.out.cell (zB w _ hx27_2)).trans hx27_2; replace hx27_3 := (HB.out.cell (zB w _ hx27_3)).trans hx27_3; have HR27_0 := zA hi27_0; have HC27_0 := zA hl27_0; clear hi27_0 hl27_0; have HR27_1 := zA hi27_1; have HC27_1 := zA hl27_1; clear hi27_1 hl27_1; have HR27_2 := zA hi27_2; have HC27_2 := zA hl27_2; clear hi27_2 hl27_2; replace p27 := eq_true p27; replace q27 := eq_true q27; go_wp2_with (first | ((with_reducible refine yB (f := 40) rfl ?_); refine goesL_ (some 18) rfl rfl Try.func40 (by kernel_rfl) rfl #[.slice A27_0 ((rd_T43 l0 x5_1).f0).length c27_0, .int .i64 x1_1] rfl (by (try simp only [zAA, zAB, zAC]); first | done | rfl | (simp only [zZ, zY]; rfl)) ?_; (with_reducible refine (laws_heldStringS.calls k1 _ _ ((rd_T43 l0 x5_1).f0) x1_1 t24 _ ?side1 ?side2 A5.out).mono ?_); (case side1 => exact (yN HR27_0.out HB.out)); (case side2 => exact HC27_0.out); rintro e w21 ⟨rfl, hb⟩; refine ⟨_, rfl, ?_⟩; have n0_ := zA (zAD HB.out hb); clear HB; have HB := n0_; clear n0_; (try clear hb); have p28 : 0 ≤ (x5_1 : Int) := zW (by assumption); have q28 : x5_1 < (l0.length : Int) := zW (by assumption); obtain ⟨ad28, A28_0, c28_0, A28_1, c28_1, A28_2, c28_2, e28, hx28_0, hx28_1, hx28_2, hx28_3, hl28_0, hi28_0, hl28_1, hi28_1, hl28_2, hi28_2⟩ := at_T43 HR0.out x5_1 p28 q28; obtain rfl : ad27 = ad28 := (by injection e28); replace hx28_0 := (HB.out.cell (zB w _ hx28_0)).trans hx28_0; replace hx28_1 := (HB.out.cell (zB w _ hx28_1)).trans hx28_1; replace hx28_2 := (HB.out.cell (zB w _ hx28_2)).trans hx28_2; replace hx28_3 := (HB.out.cell (zB w _ hx28_3)).trans hx28_3; have HR28_0 := zA hi28_0; have HC28_0 := zA hl28_0; clear hi28_0 hl28_0; have HR28_1 := zA hi28_1; have HC28_1 := zA hl28_1; clear hi28_1 hl28_1; have HR28_2 := zA hi28_2; have HC28_2 := zA hl28_2; clear hi28_2 hl28_2; replace p28 := eq_true p28; replace q28 := eq_true q28) | ((with_reducible refine yB (f := 40) rfl ?_); refine goesL_ (some 27) rfl rfl Try.func40 (by kernel_rfl) rfl #[.slice A28_1 ((rd_T43 l0 x5_1).f1).length c28_1, .int .i64 t24] rfl (by (try simp only [zAA, zAB, zAC]); first | done | rfl | (simp only [zZ, zY]; rfl)) ?_; (with_reducible refine (laws_heldStringS.calls k1 _ _ ((rd_T43 l0 x5_1).f1) t24 t25 _ ?side1 ?side2 A8.out).mono ?_); (case side1 => exact (yN HR28_1.out HB.out)); (case side2 => exact HC28_1.out); rintro e w22 ⟨rfl, hb⟩; refine ⟨_, rfl, ?_⟩; have n0_ := zA (zAD HB.out hb); clear HB; have HB := n0_; clear n0_; (try clear hb); have p30 : 0 ≤ (x5_1 : Int) := zW (by assumption); have q30 : x5_1 < (l0.length : Int) := zW (by assumption); obtain ⟨ad30, A30_0, c30_0, A30_1, c30_1, A30_2, c30_2, e30, hx30_0, hx30_1, hx30_2, hx30_3, hl30_0, hi30_0, hl30_1, hi30_1, hl30_2, hi30_2⟩ := at_T43 HR0.out x5_1 p30 q30; obtain rfl : ad27 = ad30 := (by injection e30); replace hx30_0 := (HB.out.cell (zB w _ hx30_0)).trans hx30_0; replace hx30_1 := (HB.out.cell (zB w _ hx30_1)).trans hx30_1; replace hx30_2 := (HB.out.cell (zB w _ hx30_2)).trans hx30_2; replace hx30_3 := (HB.out.cell (zB w _ hx30_3)).trans hx30_3; have HR30_0 := zA hi30_0; have HC30_0 := zA hl30_0; clear hi30_0 hl30_0; have HR30_1 := zA hi30_1; have HC30_1 := zA hl30_1; clear hi30_1 hl30_1; have HR30_2 := zA hi30_2; have HC30_2 := zA hl30_2; clear hi30_2 hl30_2; replace p30 := eq_true p30; replace q30 := eq_true q30) | ((with_reducible refine yB (f := 40) rfl ?_); refine goesL_ (some 36) rfl rfl Try.func40 (by kernel_rfl) rfl #[.slice A30_2 ((rd_T43 l0 x5_1).f2).length c30_2, .int .i64 t25] rfl (by (try simp only [zAA, zAB, zAC]); first | done | rfl | (simp only [zZ, zY]; rfl)) ?_; (with_reducible refine (laws_heldStringS.calls k1 _ _ ((rd_T43 l0 x5_1).f2) t25 t26 _ ?side1 ?side2 A12.out).mono ?_); (case side1 => exact (yN HR30_2.out HB.out)); (case side2 => exact HC30_2.out); rintro e w23 ⟨rfl, hb⟩; refine ⟨_, rfl, ?_⟩; have n0_ := zA (zAD HB.out hb); clear HB; have HB := n0_; clear n0_; (try clear hb); have p31 : 0 ≤ (x5_1 : Int) := zW (by assumption); have q31 : x5_1 < (l0.length : Int) := zW (by assumption); obtain ⟨ad31, A31_0, c31_0, A31_1, c31_1, A31_2, c31_2, e31, hx31_0, hx31_1, hx31_2, hx31_3, hl31_0, hi31_0, hl31_1, hi31_1, hl31_2, hi31_2⟩ := at_T43 HR0.out x5_1 p31 q31; obtain rfl : ad27 = ad31 := (by injection e31); replace hx31_0 := (HB.out.cell (zB w _ hx31_0)).trans hx31_0; replace hx31_1 := (HB.out.cell (zB w _ hx31_1)).trans hx31_1; replace hx31_2 := (HB.out.cell (zB w _ hx31_2)).trans hx31_2; replace hx31_3 := (HB.out.cell (zB w _ hx31_3)).trans hx31_3; have HR31_0 := zA hi31_0; have HC31_0 := zA hl31_0; clear hi31_0 hl31_0; have HR31_1 := zA hi31_1; have HC31_1 := zA hl31_1; clear hi31_1 hl31_1; have HR31_2 := zA hi31_2; have HC31_2 := zA hl31_2; clear hi31_2 hl31_2; replace p31 := eq_true p31; replace q31 := eq_true q31))
         go_ret; exact ⟨by first | rfl | (simp <;> rfl) | (simp [*] <;> rfl), HB.out⟩
    ·rw [if_neg c4] at H
     exact absurd H (by simp)
   ·rw [if_neg c3] at H
    have c3b0 : decide (x5_1 < (l0.length : Int)) = false := decide_eq_false c3; clear c3; obtain rfl := yM H; go_wp2; go_ret; exact ⟨by first | rfl | (simp <;> rfl) | (simp [*] <;> rfl), HB.out⟩
end Go.Proofs.Ytnplghcbdaiogaa.PA
end
section
namespace Go.Proofs.Ytnplghcbdaiogaa.QW
open Go.RowKit Go.Proofs.YtnplghcbdaiogaaW.PrintWords Go.Proofs.YtnplghcbdaiogaaW.PrintLast Go.Proofs.YtnplghcbdaiogaaW.PrintMore Go.Proofs.Ytnplghcbdaiogaa.PA
set_option linter.unusedVariables false
structure T where
 f0 : List ByteArray
 f1 : List ByteArray
 f2 : List T
def readK (rd : Nat → Option (T × Nat)) : List Int → Nat → Option (List T × Nat)
 | [], at_ => some ([], at_)
 | k :: ks, at_ => if k = (at_ : Int) then (match rd at_ with
  | none => none
  | some (t, e) => (match readK rd ks e with
   | none => none
   | some (l, e') => some (t :: l, e'))) else none
def okP (p : S97) : Prop := p.f0.length ≤ 4 ∧ p.f1.length = p.f0.length ∧ (p.f2.length = 0 ∨ p.f2.length = p.f0.length + 1)
instance (p : S97) : Decidable (okP p) := by unfold okP; infer_instance
def readF (ps : List S97) : Nat → Nat → Option (T × Nat)
 | 0, _ => none
 | n + 1, at_ => match ps[at_]? with
  | none => none
  | some p => if okP p then (match readK (readF ps n) p.f2 (at_ + 1) with
   | none => none
   | some (l, e) => some (⟨p.f0, p.f1, l⟩, e)) else none
mutual
def er95 : S95 → T
 | ⟨_, K, V, l⟩ => ⟨K, V, erL95 l⟩
def erL95 : List S95 → List T
 | [] => []
 | x :: l => er95 x :: erL95 l
end
theorem erL95_map (l : List S95) : erL95 l = l.map er95 := by
 induction l with
 | nil => rfl
 | cons x l ih => rw [erL95, List.map_cons, ih]
theorem er95_eq (x : S95) : er95 x = ⟨x.f0, x.f1, x.f2.map er95⟩ := by
 obtain ⟨a, K, V, l⟩ := x
 rw [er95, erL95_map]
theorem ind95 {P : S95 → Prop} (h : ∀ x : S95, (∀ k ∈ x.f2, P k) → P x) (x : S95) : P x :=
 S95.rec (motive_1 := P) (motive_2 := fun l => ∀ k ∈ l, P k) (fun a K V l ih => h ⟨a, K, V, l⟩ ih) (fun k hk => absurd hk List.not_mem_nil) (fun x l hx hl k hk => by
  rcases List.mem_cons.1 hk with rfl | hk
  ·exact hx
  ·exact hl k hk) x
mutual
def er74 : S74 → T
 | ⟨_, K, V, l⟩ => ⟨K, V, erL74 l⟩
def erL74 : List S74 → List T
 | [] => []
 | x :: l => er74 x :: erL74 l
end
theorem erL74_map (l : List S74) : erL74 l = l.map er74 := by
 induction l with
 | nil => rfl
 | cons x l ih => rw [erL74, List.map_cons, ih]
theorem er74_eq (x : S74) : er74 x = ⟨x.f0, x.f1, x.f2.map er74⟩ := by
 obtain ⟨a, K, V, l⟩ := x
 rw [er74, erL74_map]
theorem ind74 {P : S74 → Prop} (h : ∀ x : S74, (∀ k ∈ x.f2, P k) → P x) (x : S74) : P x :=
 S74.rec (motive_1 := P) (motive_2 := fun l => ∀ k ∈ l, P k) (fun a K V l ih => h ⟨a, K, V, l⟩ ih) (fun k hk => absurd hk List.not_mem_nil) (fun x l hx hl k hk => by
  rcases List.mem_cons.1 hk with rfl | hk
  ·exact hx
  ·exact hl k hk) x
theorem indT {P : T → Prop} (h : ∀ x : T, (∀ k ∈ x.f2, P k) → P x) (x : T) : P x :=
 T.rec (motive_1 := P) (motive_2 := fun l => ∀ k ∈ l, P k) (fun K V l ih => h ⟨K, V, l⟩ ih) (fun k hk => absurd hk List.not_mem_nil) (fun x l hx hl k hk => by
  rcases List.mem_cons.1 hk with rfl | hk
  ·exact hx
  ·exact hl k hk) x
theorem k95p_mkM {w : World} {base : Nat} {ok : Nat → Prop} {x : S95} {v0 v1 v2 : Value} (h0 : ok x.adr) (hb : base ≤ x.adr) (hg : w.heap[x.adr]? = some (.cells #[v0, v1, v2] 95 (0, 0)))
  (g0 : Kd.string.R 9 w base (fun k => ok k ∧ k ≠ x.adr) v0 x.f0) (g1 : Kd.string.R 9 w base (fun k => ok k ∧ k ≠ x.adr) v1 x.f1) (g2 : k95p.R 54 w base (fun k => ok k ∧ k ≠ x.adr) v2 x.f2) :
  k95p.M w base ok x [.pointer (some ⟨x.adr, 0, none⟩)] := by
 obtain ⟨n, g2⟩ := Kd.fix_R_back mono95 g2
 exact ⟨n + 1, #[v0, v1, v2], rfl, h0, hb, hg, [v0], [v1, v2], rfl, ⟨v0, rfl, g0⟩, [v1], [v2], rfl, ⟨v1, rfl, g1⟩, ⟨v2, rfl, g2⟩⟩
theorem k74p_mkM {w : World} {base : Nat} {ok : Nat → Prop} {x : S74} {v0 v1 v2 : Value} (h0 : ok x.adr) (hb : base ≤ x.adr) (hg : w.heap[x.adr]? = some (.cells #[v0, v1, v2] 74 (0, 0)))
  (g0 : Kd.string.R 9 w base (fun k => ok k ∧ k ≠ x.adr) v0 x.f0) (g1 : Kd.string.R 9 w base (fun k => ok k ∧ k ≠ x.adr) v1 x.f1) (g2 : k74p.R 60 w base (fun k => ok k ∧ k ≠ x.adr) v2 x.f2) :
  k74p.M w base ok x [.pointer (some ⟨x.adr, 0, none⟩)] := by
 obtain ⟨n, g2⟩ := Kd.fix_R_back mono74 g2
 exact ⟨n + 1, #[v0, v1, v2], rfl, h0, hb, hg, [v0], [v1, v2], rfl, ⟨v0, rfl, g0⟩, [v1], [v2], rfl, ⟨v1, rfl, g1⟩, ⟨v2, rfl, g2⟩⟩
theorem R_apart {α β : Type} {d : Kd α} {d' : Kd β} {e e' : Nat} {w : World} {base base' : Nat} {ok ok' : Nat → Prop} {v u : Value} {xs : List α} {ys : List β} (h : d.R e w base ok v xs) (h' : d'.R e' w base' ok' u ys) (ht : ∀ q, q ∈ e :: d.E → q ≠ e') :
  d.R e w base (fun k => ok k ∧ some k ≠ u.ownBlock) v xs :=
 Kd.R_mono (Kd.R_bound h) (fun k hk => ⟨hk.1, fun he => by
  obtain ⟨_, _, _, q, hq, cells', hc⟩ := hk
  obtain ⟨inner, ho⟩ := Kd.R_own h'
  obtain ⟨cells, hc'⟩ := own_typed ho k he.symm
  rw [hc] at hc'
  injection hc' with hc'
  injection hc' with _ hq'
  exact ht q hq hq'⟩)
theorem info54 : (Try.prog.info? 54).map (fun i => (i.zero, i.size, i.bytes)) = some (some (.pointer none), 1, 8) := by kernel_rfl
theorem info60 : (Try.prog.info? 60).map (fun i => (i.zero, i.size, i.bytes)) = some (some (.pointer none), 1, 8) := by kernel_rfl
theorem w64N (i : Nat) (h : i < 4611686018427387904) : Value.int .i64 (wrap64 ((i : Int) + 1)) = Value.int .i64 ((i + 1 : Nat) : Int) := by
 have : wrap64 ((i : Int) + 1) = ((i + 1 : Nat) : Int) := by unfold wrap64; omega
 rw [this]
def Sml (ps : List S97) : Prop := ps.length < 1099511627776 ∧ ∀ p ∈ ps, p.f0.length < 1099511627776 ∧ p.f1.length < 1099511627776 ∧ p.f2.length < 1099511627776
theorem readK_le {rd : Nat → Option (T × Nat)} {m : Nat} (hrd : ∀ a t e, rd a = some (t, e) → a < e ∧ e ≤ m) : ∀ (ks : List Int) (a : Nat) (l : List T) (e : Nat), a ≤ m → readK rd ks a = some (l, e) → a ≤ e ∧ e ≤ m := by
 intro ks
 induction ks with
 | nil =>
  intro a l e ha h
  simp only [readK, Option.some.injEq, Prod.mk.injEq] at h
  omega
 | cons k ks ih =>
  intro a l e ha h
  rw [readK] at h
  by_cases c : k = (a : Int)
  ·rw [if_pos c] at h
   cases hr : rd a with
   | none => rw [hr] at h; cases h
   | some te =>
    obtain ⟨t, e1⟩ := te
    rw [hr] at h
    dsimp only at h
    have h1 := hrd a t e1 hr
    cases hk : readK rd ks e1 with
    | none => rw [hk] at h; cases h
    | some le =>
     obtain ⟨l1, e2⟩ := le
     rw [hk] at h
     dsimp only at h
     have h2 := ih e1 l1 e2 (by omega) hk
     simp only [Option.some.injEq, Prod.mk.injEq] at h
     omega
  ·rw [if_neg c] at h; cases h
theorem readF_le (ps : List S97) : ∀ (n a : Nat) (t : T) (e : Nat), readF ps n a = some (t, e) → a < e ∧ e ≤ ps.length := by
 intro n
 induction n with
 | zero => intro a t e h; cases h
 | succ n ih =>
  intro a t e h
  rw [readF] at h
  cases hp : ps[a]? with
  | none => rw [hp] at h; cases h
  | some p =>
   rw [hp] at h
   dsimp only at h
   have ha : a < ps.length := by
    rcases Nat.lt_or_ge a ps.length with h1 | h1
    ·exact h1
    ·rw [List.getElem?_eq_none h1] at hp; cases hp
   by_cases c : okP p
   ·rw [if_pos c] at h
    cases hk : readK (readF ps n) p.f2 (a + 1) with
    | none => rw [hk] at h; cases h
    | some le =>
     obtain ⟨l, e1⟩ := le
     rw [hk] at h
     dsimp only at h
     have := readK_le ih p.f2 (a + 1) l e1 (by omega) hk
     simp only [Option.some.injEq, Prod.mk.injEq] at h
     omega
   ·rw [if_neg c] at h; cases h
end Go.Proofs.Ytnplghcbdaiogaa.QW
end
section
namespace Go.Proofs.Ytnplghcbdaiogaa.RF
open Go.RowKit Go.Proofs.YtnplghcbdaiogaaW.PrintWords Go.Proofs.YtnplghcbdaiogaaW.PrintLast Go.Proofs.YtnplghcbdaiogaaW.PrintMore Go.Proofs.Ytnplghcbdaiogaa.PA
attribute [local go_sem] max2_int min2_int max_two min_two max_three min_three max_four min_four
set_option linter.unusedVariables false
set_option linter.unusedSimpArgs false
set_option maxHeartbeats 4000000
set_option maxRecDepth 100000
def apart (cs : List Value) : Prop := ∀ (i j k : Nat) (u v : Value), cs[i]? = some u → cs[j]? = some v → u.ownBlock = some k → v.ownBlock = some k → i = j
def aps {α : Type} (d : Kd α) : Kd α where
 sz := d.sz
 E := d.E
 K := d.K
 M := fun w base ok x cs => d.M w base ok x cs ∧ apart cs
 K_len := d.K_len
 K_one := d.K_one
 K_below := d.K_below
 K_of_M := fun h => d.K_of_M h.1
 M_mono := fun hok h => ⟨d.M_mono hok h.1, h.2⟩
 M_bound := fun h => ⟨d.M_bound h.1, h.2⟩
 M_move := fun hm h => ⟨d.M_move hm h.1, h.2⟩
 M_lower := fun hb h => ⟨d.M_lower hb h.1, h.2⟩
theorem aps_C {α : Type} {d : Kd α} {w : World} {A : Option Addr} {n : Nat} {xs : List α} (h : (aps d).C w A n xs) : d.C w A n xs := h
def a43 : Kd S43 := aps k43
def ap3 (v0 v1 v2 : Value) : Prop := (∀ k, v0.ownBlock = some k → v1.ownBlock ≠ some k ∧ v2.ownBlock ≠ some k) ∧ ∀ k, v1.ownBlock = some k → v2.ownBlock ≠ some k
theorem ap3_nil : ap3 (.slice none 0 0) (.slice none 0 0) (.slice none 0 0) := ⟨fun k h => by simp [Value.ownBlock] at h, fun k h => by simp [Value.ownBlock] at h⟩
theorem apart_of {v0 v1 v2 : Value} {q : Int} (h : ap3 v0 v1 v2) : apart [v0, v1, v2, .int .i64 q] := by
 intro i j k u v hu hv ou ov
 have e3 : (Value.int .i64 q).ownBlock = none := rfl
 match i, j, hu, hv with
 | 0, 0, _, _ => rfl
 | 1, 1, _, _ => rfl
 | 2, 2, _, _ => rfl
 | 3, 3, _, _ => rfl
 | 0, 1, hu, hv => cases hu; cases hv; exact absurd ov (h.1 k ou).1
 | 0, 2, hu, hv => cases hu; cases hv; exact absurd ov (h.1 k ou).2
 | 1, 0, hu, hv => cases hu; cases hv; exact absurd ou (h.1 k ov).1
 | 2, 0, hu, hv => cases hu; cases hv; exact absurd ou (h.1 k ov).2
 | 1, 2, hu, hv => cases hu; cases hv; exact absurd ov (h.2 k ou)
 | 2, 1, hu, hv => cases hu; cases hv; exact absurd ou (h.2 k ov)
 | 3, _, hu, _ => cases hu; rw [e3] at ou; cases ou
 | _, 3, _, hv => cases hv; rw [e3] at ov; cases ov
 | n + 4, _, hu, _ => simp at hu
 | _, n + 4, _, hv => simp at hv
theorem of_apart {v0 v1 v2 v3 : Value} (h : apart [v0, v1, v2, v3]) : ap3 v0 v1 v2 :=
 ⟨fun k h0 => ⟨fun h1 => by have := h 0 1 k v0 v1 rfl rfl h0 h1; omega, fun h1 => by have := h 0 2 k v0 v2 rfl rfl h0 h1; omega⟩, fun k h0 h1 => by have := h 1 2 k v1 v2 rfl rfl h0 h1; omega⟩
theorem a43_openA {w : World} {base : Nat} {ok : Nat → Prop} {x : S43} {cs : List Value} (h : a43.M w base ok x cs) : ∃ v0 v1 v2, cs = [v0, v1, v2, .int .i64 x.f3] ∧ Kd.string.R 9 w base ok v0 x.f0 ∧ Kd.string.R 9 w base ok v1 x.f1 ∧ Kd.string.R 9 w base ok v2 x.f2 ∧ ap3 v0 v1 v2 := by
 obtain ⟨v0, v1, v2, rfl, h0, h1, h2⟩ := k43_openM h.1
 exact ⟨v0, v1, v2, rfl, h0, h1, h2, of_apart h.2⟩
theorem a43_mkM (w : World) (base : Nat) (ok : Nat → Prop) (x : S43) {v0 : Value} (g0 : Kd.string.R 9 w base ok v0 x.f0) {v1 : Value} (g1 : Kd.string.R 9 w base ok v1 x.f1) {v2 : Value} (g2 : Kd.string.R 9 w base ok v2 x.f2) (ha : ap3 v0 v1 v2) : a43.M w base ok x [v0, v1, v2, .int .i64 x.f3] := ⟨k43_mkM w base ok x g0 g1 g2, apart_of ha⟩
section
variable {W W' : World} {base g n cap : Nat} {ok : Nat → Prop} {xs : List S43}
theorem H_cell {α : Type} {d : Kd α} {e : Nat} {v : Value} {ys : List α} {i : Int} {oki S : Nat → Prop} {c : List Value} (h : Kd.H d e W base ok v ys i oki c) (hk : Kept W W' S) (hs : ∀ k, S k → oki k) : Kd.H d e W' base ok v ys i oki c := Kd.H_kept h hk (fun k _ hn hk => hn (hs k hk))
theorem lendA (h : Kd.S a43 43 W base ok (.slice (some ⟨g, 0, none⟩) n cap) xs) (i : Int) (h0 : 0 ≤ i) (h1 : i < n) :
  ∃ v0 v1 v2, W.cell? ⟨g, i.toNat * 4, none⟩ = some v0 ∧ W.cell? ⟨g, i.toNat * 4 + 1, none⟩ = some v1 ∧ W.cell? ⟨g, i.toNat * 4 + 2, none⟩ = some v2 ∧ W.cell? ⟨g, i.toNat * 4 + 3, none⟩ = some (.int .i64 (rd_T43 xs i).f3) ∧ W.frozen? ⟨g, i.toNat * 4 + 3, none⟩ = false ∧
   Kd.string.R 9 W base (fun k => some k = v0.ownBlock) v0 (rd_T43 xs i).f0 ∧ Kd.string.R 9 W base (fun k => some k = v1.ownBlock) v1 (rd_T43 xs i).f1 ∧ Kd.string.R 9 W base (fun k => some k = v2.ownBlock) v2 (rd_T43 xs i).f2 ∧
   (∀ k, v0.ownBlock = some k → ok k) ∧ (∀ k, v1.ownBlock = some k → ok k) ∧ (∀ k, v2.ownBlock = some k → ok k) ∧
   (∀ (W' : World) (t : List ByteArray), Kept W W' (fun k => some k = v0.ownBlock) → Kd.string.R 9 W' base (fun k => some k = v0.ownBlock ∨ W.heap.size ≤ k) v0 t → Kd.S a43 43 W' base ok (.slice (some ⟨g, 0, none⟩) n cap) (xs.set i.toNat ⟨t, (rd_T43 xs i).f1, (rd_T43 xs i).f2, (rd_T43 xs i).f3⟩)) ∧
   (∀ (W' : World) (t : List ByteArray), Kept W W' (fun k => some k = v1.ownBlock) → Kd.string.R 9 W' base (fun k => some k = v1.ownBlock ∨ W.heap.size ≤ k) v1 t → Kd.S a43 43 W' base ok (.slice (some ⟨g, 0, none⟩) n cap) (xs.set i.toNat ⟨(rd_T43 xs i).f0, t, (rd_T43 xs i).f2, (rd_T43 xs i).f3⟩)) ∧
   (∀ (W' : World) (t : List ByteArray), Kept W W' (fun k => some k = v2.ownBlock) → Kd.string.R 9 W' base (fun k => some k = v2.ownBlock ∨ W.heap.size ≤ k) v2 t → Kd.S a43 43 W' base ok (.slice (some ⟨g, 0, none⟩) n cap) (xs.set i.toNat ⟨(rd_T43 xs i).f0, (rd_T43 xs i).f1, t, (rd_T43 xs i).f3⟩)) ∧
   (∀ q : Int, Kd.S a43 43 (W.setCell ⟨g, i.toNat * 4 + 3, none⟩ (.int .i64 q)) base ok (.slice (some ⟨g, 0, none⟩) n cap) (xs.set i.toNat ⟨(rd_T43 xs i).f0, (rd_T43 xs i).f1, (rd_T43 xs i).f2, q⟩)) := by
 obtain ⟨oki, c, hcl, hM, hcc, hfr, hoki, hH⟩ := Kd.S_elem h z43 i h0 h1
 obtain ⟨v0, v1, v2, rfl, g0, g1, g2, ha⟩ := a43_openA (x := rd_T43 xs i) hM
 have t0 := Kd.R_tight rfl g0
 have t1 := Kd.R_tight rfl g1
 have t2 := Kd.R_tight rfl g2
 have s0 : ∀ k, some k = v0.ownBlock → oki k := fun k hk => g0.1 k hk.symm
 have s1 : ∀ k, some k = v1.ownBlock → oki k := fun k hk => g1.1 k hk.symm
 have s2 : ∀ k, some k = v2.ownBlock → oki k := fun k hk => g2.1 k hk.symm
 have hsz : a43.sz = 4 := rfl
 refine ⟨v0, v1, v2, hcc 0 _ rfl, hcc 1 _ rfl, hcc 2 _ rfl, hcc 3 _ rfl, hfr 3, t0, t1, t2, fun k hk => (hoki k (s0 k hk.symm)).1, fun k hk => (hoki k (s1 k hk.symm)).1, fun k hk => (hoki k (s2 k hk.symm)).1, ?_, ?_, ?_, ?_⟩
 ·intro W' t hk hr
  have hr' := Kd.R_mono (Kd.R_tight rfl hr) s0
  refine Kd.H_back (H_cell hH hk s0) (okp := oki) (a43_mkM W' base oki ⟨t, (rd_T43 xs i).f1, (rd_T43 xs i).f2, (rd_T43 xs i).f3⟩ hr' (Kd.R_mono (Kd.R_kept t1 hk (fun k e1 e2 => (ha.1 k e2.symm).1 e1.symm)) s1) (Kd.R_mono (Kd.R_kept t2 hk (fun k e1 e2 => (ha.1 k e2.symm).2 e1.symm)) s2) ha) (fun _ h => h)
 ·intro W' t hk hr
  have hr' := Kd.R_mono (Kd.R_tight rfl hr) s1
  refine Kd.H_back (H_cell hH hk s1) (okp := oki) (a43_mkM W' base oki ⟨(rd_T43 xs i).f0, t, (rd_T43 xs i).f2, (rd_T43 xs i).f3⟩ (Kd.R_mono (Kd.R_kept t0 hk (fun k e1 e2 => (ha.1 k e1.symm).1 e2.symm)) s0) hr' (Kd.R_mono (Kd.R_kept t2 hk (fun k e1 e2 => ha.2 k e2.symm e1.symm)) s2) ha) (fun _ h => h)
 ·intro W' t hk hr
  have hr' := Kd.R_mono (Kd.R_tight rfl hr) s2
  refine Kd.H_back (H_cell hH hk s2) (okp := oki) (a43_mkM W' base oki ⟨(rd_T43 xs i).f0, (rd_T43 xs i).f1, t, (rd_T43 xs i).f3⟩ (Kd.R_mono (Kd.R_kept t0 hk (fun k e1 e2 => (ha.1 k e1.symm).2 e2.symm)) s0) (Kd.R_mono (Kd.R_kept t1 hk (fun k e1 e2 => ha.2 k e1.symm e2.symm)) s1) hr' ha) (fun _ h => h)
 ·intro q
  have hfar : ∀ k, oki k → k ≠ g := fun k hk => (hoki k hk).2
  obtain ⟨h3, _⟩ := Kd.H_seg hH h0 h1 (seg := [.int .i64 q]) (j := 3) (show 3 + 1 ≤ 4 by decide) (fun q hq => by rw [List.mem_singleton.1 hq]; rfl)
  exact Kd.H_back h3 (okp := oki) (a43_mkM _ base oki ⟨(rd_T43 xs i).f0, (rd_T43 xs i).f1, (rd_T43 xs i).f2, q⟩ (Kd.R_far (p := ⟨g, i.toNat * 4 + 3, none⟩) g0 hfar (.int .i64 q)) (Kd.R_far (p := ⟨g, i.toNat * 4 + 3, none⟩) g1 hfar (.int .i64 q)) (Kd.R_far (p := ⟨g, i.toNat * 4 + 3, none⟩) g2 hfar (.int .i64 q)) ha) (fun _ h => h)
theorem lendX (h : Kd.S a43 43 W base ok (.slice (some ⟨g, 0, none⟩) n cap) xs) (i : Int) (h0 : 0 ≤ i) (h1 : i < n) (x : S43) (hx : rd_T43 xs i = x) :
  ∃ A0 c0 A1 c1 A2 c2, W.cell? ⟨g, i.toNat * 4, none⟩ = some (.slice A0 x.f0.length c0) ∧ W.cell? ⟨g, i.toNat * 4 + 1, none⟩ = some (.slice A1 x.f1.length c1) ∧ W.cell? ⟨g, i.toNat * 4 + 2, none⟩ = some (.slice A2 x.f2.length c2) ∧ W.cell? ⟨g, i.toNat * 4 + 3, none⟩ = some (.int .i64 x.f3) ∧ W.frozen? ⟨g, i.toNat * 4 + 3, none⟩ = false ∧
   Kd.string.R 9 W base (fun k => some k = (Value.slice A0 x.f0.length c0).ownBlock) (.slice A0 x.f0.length c0) x.f0 ∧ Kd.string.R 9 W base (fun k => some k = (Value.slice A1 x.f1.length c1).ownBlock) (.slice A1 x.f1.length c1) x.f1 ∧ Kd.string.R 9 W base (fun k => some k = (Value.slice A2 x.f2.length c2).ownBlock) (.slice A2 x.f2.length c2) x.f2 ∧
   (∀ k, some k = (Value.slice A0 x.f0.length c0).ownBlock → ok k) ∧ (∀ k, some k = (Value.slice A1 x.f1.length c1).ownBlock → ok k) ∧ (∀ k, some k = (Value.slice A2 x.f2.length c2).ownBlock → ok k) ∧
   (∀ (W' : World) (t : List ByteArray), Kept W W' (fun k => some k = (Value.slice A0 x.f0.length c0).ownBlock) → Kd.string.R 9 W' base (fun k => some k = (Value.slice A0 x.f0.length c0).ownBlock ∨ W.heap.size ≤ k) (.slice A0 x.f0.length c0) t → Kd.S a43 43 W' base ok (.slice (some ⟨g, 0, none⟩) n cap) (xs.set i.toNat ⟨t, x.f1, x.f2, x.f3⟩)) ∧
   (∀ (W' : World) (t : List ByteArray), Kept W W' (fun k => some k = (Value.slice A1 x.f1.length c1).ownBlock) → Kd.string.R 9 W' base (fun k => some k = (Value.slice A1 x.f1.length c1).ownBlock ∨ W.heap.size ≤ k) (.slice A1 x.f1.length c1) t → Kd.S a43 43 W' base ok (.slice (some ⟨g, 0, none⟩) n cap) (xs.set i.toNat ⟨x.f0, t, x.f2, x.f3⟩)) ∧
   (∀ (W' : World) (t : List ByteArray), Kept W W' (fun k => some k = (Value.slice A2 x.f2.length c2).ownBlock) → Kd.string.R 9 W' base (fun k => some k = (Value.slice A2 x.f2.length c2).ownBlock ∨ W.heap.size ≤ k) (.slice A2 x.f2.length c2) t → Kd.S a43 43 W' base ok (.slice (some ⟨g, 0, none⟩) n cap) (xs.set i.toNat ⟨x.f0, x.f1, t, x.f3⟩)) ∧
   (∀ q : Int, Kd.S a43 43 (W.setCell ⟨g, i.toNat * 4 + 3, none⟩ (.int .i64 q)) base ok (.slice (some ⟨g, 0, none⟩) n cap) (xs.set i.toNat ⟨x.f0, x.f1, x.f2, q⟩)) := by
 subst hx
 obtain ⟨v0, v1, v2, a0, a1, a2, a3, a4, r0, r1, r2, o0, o1, o2, b0, b1, b2, b3⟩ := lendA h i h0 h1
 obtain ⟨A0, c0, rfl⟩ := Kd.R_slice r0
 obtain ⟨A1, c1, rfl⟩ := Kd.R_slice r1
 obtain ⟨A2, c2, rfl⟩ := Kd.R_slice r2
 exact ⟨A0, c0, A1, c1, A2, c2, a0, a1, a2, a3, a4, r0, r1, r2, fun k hk => o0 k hk.symm, fun k hk => o1 k hk.symm, fun k hk => o2 k hk.symm, b0, b1, b2, b3⟩
theorem rd_set43 (xs : List S43) (i : Int) (y : S43) (h : i.toNat < xs.length) : rd_T43 (xs.set i.toNat y) i = y := by
 unfold rd_T43; rw [List.getD_eq_getElem?_getD, List.getElem?_set_self h]; rfl
end
def a97 : Kd S97 := aps k97
theorem apart_of3 {v0 v1 v2 : Value} (h : ap3 v0 v1 v2) : apart [v0, v1, v2] := by
 have pre : ∀ (i : Nat) (u : Value), [v0, v1, v2][i]? = some u → [v0, v1, v2, Value.int .i64 0][i]? = some u := fun i u hu => by
  match i, hu with
  | 0, hu => exact hu
  | 1, hu => exact hu
  | 2, hu => exact hu
  | n + 3, hu => simp at hu
 exact fun i j k u v hu hv => apart_of (q := 0) h i j k u v (pre i u hu) (pre j v hv)
theorem of_apart3 {v0 v1 v2 : Value} (h : apart [v0, v1, v2]) : ap3 v0 v1 v2 :=
 ⟨fun k h0 => ⟨fun h1 => by have := h 0 1 k v0 v1 rfl rfl h0 h1; omega, fun h1 => by have := h 0 2 k v0 v2 rfl rfl h0 h1; omega⟩, fun k h0 h1 => by have := h 1 2 k v1 v2 rfl rfl h0 h1; omega⟩
theorem a97_openM {w : World} {base : Nat} {ok : Nat → Prop} {x : S97} {cs : List Value} (h : a97.M w base ok x cs) : ∃ v0 v1 v2, cs = [v0, v1, v2] ∧ Kd.string.R 9 w base ok v0 x.f0 ∧ Kd.string.R 9 w base ok v1 x.f1 ∧ (Kd.int .i64).R 3 w base ok v2 x.f2 := k97_openM h.1
theorem a97_openA {w : World} {base : Nat} {ok : Nat → Prop} {x : S97} {cs : List Value} (h : a97.M w base ok x cs) : ∃ v0 v1 v2, cs = [v0, v1, v2] ∧ Kd.string.R 9 w base ok v0 x.f0 ∧ Kd.string.R 9 w base ok v1 x.f1 ∧ (Kd.int .i64).R 3 w base ok v2 x.f2 ∧ ap3 v0 v1 v2 := by
 obtain ⟨v0, v1, v2, rfl, h0, h1, h2⟩ := k97_openM h.1
 exact ⟨v0, v1, v2, rfl, h0, h1, h2, of_apart3 h.2⟩
theorem a97_mkM (w : World) (base : Nat) (ok : Nat → Prop) (x : S97) {v0 : Value} (g0 : Kd.string.R 9 w base ok v0 x.f0) {v1 : Value} (g1 : Kd.string.R 9 w base ok v1 x.f1) {v2 : Value} (g2 : (Kd.int .i64).R 3 w base ok v2 x.f2) (ha : ap3 v0 v1 v2) : a97.M w base ok x [v0, v1, v2] := ⟨k97_mkM w base ok x g0 g1 g2, apart_of3 ha⟩
theorem ne_types {w : World} {b b' : Nat} {ok ok' : Nat → Prop} {v u : Value} {xs : List ByteArray} {ys : List Int} (h : Kd.string.R 9 w b ok v xs) (h' : (Kd.int .i64).R 3 w b' ok' u ys) : ∀ k, v.ownBlock = some k → u.ownBlock ≠ some k :=
 fun k hk hu => (Go.Proofs.Ytnplghcbdaiogaa.QW.R_apart h h' (by decide)).1 k hk |>.2 hu.symm
section
variable {W W' : World} {base g n cap : Nat} {ok : Nat → Prop} {xs : List S97}
abbrev own (v : Value) (k : Nat) : Prop := some k = v.ownBlock
theorem lend97 (h : Kd.S a97 97 W base ok (.slice (some ⟨g, 0, none⟩) n cap) xs) (i : Int) (h0 : 0 ≤ i) (h1 : i < n) (x : S97) (hx : rd_T97 xs i = x) :
  ∃ A0 c0 A1 c1 A2 c2, W.cell? ⟨g, i.toNat * 3, none⟩ = some (.slice A0 x.f0.length c0) ∧ W.cell? ⟨g, i.toNat * 3 + 1, none⟩ = some (.slice A1 x.f1.length c1) ∧ W.cell? ⟨g, i.toNat * 3 + 2, none⟩ = some (.slice A2 x.f2.length c2) ∧
   Kd.string.R 9 W base (fun k => some k = (Value.slice A0 x.f0.length c0).ownBlock) (.slice A0 x.f0.length c0) x.f0 ∧ Kd.string.R 9 W base (fun k => some k = (Value.slice A1 x.f1.length c1).ownBlock) (.slice A1 x.f1.length c1) x.f1 ∧ (Kd.int .i64).R 3 W base (fun k => some k = (Value.slice A2 x.f2.length c2).ownBlock) (.slice A2 x.f2.length c2) x.f2 ∧
   (∀ k, some k = (Value.slice A0 x.f0.length c0).ownBlock → ok k) ∧ (∀ k, some k = (Value.slice A1 x.f1.length c1).ownBlock → ok k) ∧ (∀ k, some k = (Value.slice A2 x.f2.length c2).ownBlock → ok k) ∧
   (∀ (W' : World) (t : List ByteArray), Kept W W' (fun k => some k = (Value.slice A0 x.f0.length c0).ownBlock) → Kd.string.R 9 W' base (fun k => some k = (Value.slice A0 x.f0.length c0).ownBlock ∨ W.heap.size ≤ k) (.slice A0 x.f0.length c0) t → Kd.S a97 97 W' base ok (.slice (some ⟨g, 0, none⟩) n cap) (xs.set i.toNat ⟨t, x.f1, x.f2⟩)) ∧
   (∀ (W' : World) (t : List ByteArray), Kept W W' (fun k => some k = (Value.slice A1 x.f1.length c1).ownBlock) → Kd.string.R 9 W' base (fun k => some k = (Value.slice A1 x.f1.length c1).ownBlock ∨ W.heap.size ≤ k) (.slice A1 x.f1.length c1) t → Kd.S a97 97 W' base ok (.slice (some ⟨g, 0, none⟩) n cap) (xs.set i.toNat ⟨x.f0, t, x.f2⟩)) ∧
   (∀ (W' : World) (t : List Int), Kept W W' (fun k => some k = (Value.slice A2 x.f2.length c2).ownBlock) → (Kd.int .i64).R 3 W' base (fun k => some k = (Value.slice A2 x.f2.length c2).ownBlock ∨ W.heap.size ≤ k) (.slice A2 x.f2.length c2) t → Kd.S a97 97 W' base ok (.slice (some ⟨g, 0, none⟩) n cap) (xs.set i.toNat ⟨x.f0, x.f1, t⟩)) := by
 subst hx
 obtain ⟨oki, c, hcl, hM, hcc, hfr, hoki, hH⟩ := Kd.S_elem h z97 i h0 h1
 obtain ⟨v0, v1, v2, rfl, g0, g1, g2, ha⟩ := a97_openA (x := rd_T97 xs i) hM
 obtain ⟨A0, c0, rfl⟩ := Kd.R_slice g0
 obtain ⟨A1, c1, rfl⟩ := Kd.R_slice g1
 obtain ⟨A2, c2, rfl⟩ := Kd.R_slice g2
 have t0 := Kd.R_tight rfl g0
 have t1 := Kd.R_tight rfl g1
 have t2 := Kd.R_tight rfl g2
 have s0 : ∀ k, own (.slice A0 (rd_T97 xs i).f0.length c0) k → oki k := fun k hk => g0.1 k hk.symm
 have s1 : ∀ k, own (.slice A1 (rd_T97 xs i).f1.length c1) k → oki k := fun k hk => g1.1 k hk.symm
 have s2 : ∀ k, own (.slice A2 (rd_T97 xs i).f2.length c2) k → oki k := fun k hk => g2.1 k hk.symm
 refine ⟨A0, c0, A1, c1, A2, c2, hcc 0 _ rfl, hcc 1 _ rfl, hcc 2 _ rfl, t0, t1, t2, fun k hk => (hoki k (s0 k hk)).1, fun k hk => (hoki k (s1 k hk)).1, fun k hk => (hoki k (s2 k hk)).1, ?_, ?_, ?_⟩
 ·intro W' t hk hr
  have hr' := Kd.R_mono (Kd.R_tight rfl hr) s0
  refine Kd.H_back (H_cell hH hk s0) (okp := oki) (a97_mkM W' base oki ⟨t, (rd_T97 xs i).f1, (rd_T97 xs i).f2⟩ hr' (Kd.R_mono (Kd.R_kept t1 hk (fun k e1 e2 => (ha.1 k e2.symm).1 e1.symm)) s1) (Kd.R_mono (Kd.R_kept t2 hk (fun k e1 e2 => (ha.1 k e2.symm).2 e1.symm)) s2) ha) (fun _ h => h)
 ·intro W' t hk hr
  have hr' := Kd.R_mono (Kd.R_tight rfl hr) s1
  refine Kd.H_back (H_cell hH hk s1) (okp := oki) (a97_mkM W' base oki ⟨(rd_T97 xs i).f0, t, (rd_T97 xs i).f2⟩ (Kd.R_mono (Kd.R_kept t0 hk (fun k e1 e2 => (ha.1 k e1.symm).1 e2.symm)) s0) hr' (Kd.R_mono (Kd.R_kept t2 hk (fun k e1 e2 => ha.2 k e2.symm e1.symm)) s2) ha) (fun _ h => h)
 ·intro W' t hk hr
  have hr' := Kd.R_mono (Kd.R_tight rfl hr) s2
  refine Kd.H_back (H_cell hH hk s2) (okp := oki) (a97_mkM W' base oki ⟨(rd_T97 xs i).f0, (rd_T97 xs i).f1, t⟩ (Kd.R_mono (Kd.R_kept t0 hk (fun k e1 e2 => (ha.1 k e1.symm).2 e2.symm)) s0) (Kd.R_mono (Kd.R_kept t1 hk (fun k e1 e2 => ha.2 k e1.symm e2.symm)) s1) hr' ha) (fun _ h => h)
theorem rd_set97 (xs : List S97) (i : Int) (y : S97) (h : i.toNat < xs.length) : rd_T97 (xs.set i.toNat y) i = y := by
 unfold rd_T97; rw [List.getD_eq_getElem?_getD, List.getElem?_set_self h]; rfl
end
theorem toPageS_calls (k : Nat) (A0 : Option Addr) (c0 : Nat) (l0 : List (S87)) (r : List (S97)) (w : World) (hr0 : Kd.C k87 w A0 l0.length l0) (hc0 : l0.length ≤ c0) (h : laws_toPageS.f k l0 = some r) :
  Calls Try.prog 26 #[.slice A0 l0.length c0] w fun e w' => ∃ v0_ : Value, e = .returned (v0_) ∧ Kd.S a97 97 w' w.heap.size (fun _ => True) v0_ r ∧ Below w.heap.size w w' := by
 have hu87 := Try.underlying87; have hu97 := Try.underlying97; have HR0 := zA hr0; have HC0 := zA hc0; clear hr0 hc0; have HB := zA (Below.refl w.heap.size w); have H : (if 0 ≤ (l0.length : Int) then (if ((l0.length : Int) : Int).toNat ≤ 3909374676536 then (laws_toPageS.l0 k l0 (List.replicate ((l0.length : Int) : Int).toNat z97) 0) else (none)) else (none)) = some r := h; clear h
 by_cases c2 : 0 ≤ (l0.length : Int)
 ·rw [if_pos c2] at H
  have c2b0 := eq_true c2; have c2b1 : decide (0 ≤ (l0.length : Int)) = true := zX c2; clear c2
  by_cases c3 : ((l0.length : Int) : Int).toNat ≤ 3909374676536
  ·rw [if_pos c3] at H
   have c3b0 := eq_true c3; have c3b1 : decide (((l0.length : Int) : Int).toNat ≤ 3909374676536) = true := zX c3; clear c3; obtain ⟨y17, hy17⟩ : ∃ y_ : List (S97), y_ = (List.replicate ((l0.length : Int) : Int).toNat z97) := ⟨_, rfl⟩; replace H : (laws_toPageS.l0 k l0 y17 0) = some r := by first | (rw [hy17]; with_reducible exact H) | (have H2_ := (Option.bind_some _ _).symm.trans H; rw [hy17]; with_reducible exact H2_) | (have H2_ := (Option.bind_some _ _).symm.trans H; with_reducible exact H2_) | with_reducible exact H | (rw [hy17]; exact H) | exact H
   have Ny17 := zA hy17; clear hy17; have H' := zA H; clear H; go_enter Try.func26, Try.ntmps26; go_wp2_with (first | ((with_reducible refine gate_dst (N := 7) rfl ?_); refine Kd.S_make a97 _ 97 rfl (N := 7) rfl 28 _ _ rfl (l0.length : Int) rfl rfl Try.underlying28 (.agg #[(.slice none 0 0), (.slice none 0 0), (.slice none 0 0)]) 72 info97 rfl (by decide) (by omega) z97 (ok := fun _ => True) (okp := fun _ => True) (a97_mkM _ _ _ z97 (Kd.R_nil _ _ _ _ _) (Kd.R_nil _ _ _ _ _) (Kd.R_nil _ _ _ _ _) ap3_nil) (fun _ hk => hk) trivial (zW (by first | (with_reducible assumption) | assumption)) (Nat.le_trans (Nat.mul_le_mul_right _ (zW (by first | (with_reducible assumption) | assumption) : (l0.length : Int).toNat ≤ 3909374676536)) (by omega)) (Below.refl _ _) (Nat.le_refl _) ?_; intro v18 w4 ho5 hb hg_ hnew_; clear hg_ hnew_; (first | rw [← Ny17.out] at ho5 | (simp only [Int.reduceToNat] at ho5; rw [← Ny17.out] at ho5)); have n0_ := zA (Kd.S_lower ho5 (zAE (by repeat (first | (with_reducible first | exact HB.out | apply zH | apply zF | apply zG) | exact HB.out)))); have n1_ := zA (zAD (by repeat (first | (with_reducible first | exact HB.out | apply zH | apply zF | apply zG) | exact HB.out)) hb); clear HB; have HO19 := n0_; have HB := n1_; clear n0_ n1_; clear hb ho5)); go_loopg [4] k (fun kq v4 w' => ∃ (x3_1 : List (S97)) (x4_1 : Int), v4 = .int .i64 x4_1 ∧ Aside0 (laws_toPageS.l0 kq l0 x3_1 x4_1 = some r) ∧ Aside0 (kq ≤ k) ∧ Aside0 (Kd.S a97 97 w' w.heap.size (fun _ => True) v18 x3_1) ∧ Aside0 (Below w.heap.size w w'))
   case atStart => exact ⟨(y17), (0), (by first | rfl | (simp; done) | (simp [*]; done) | (simp [bne]; done)), H', ⟨Nat.le_refl _⟩, ⟨by (with_reducible repeat (first | apply Kd.S_alloc | apply Kd.S_drewN | apply Kd.S_drew)); exact HO19.out⟩, ⟨by repeat (first | (with_reducible first | exact HB.out | apply zH | apply zF | apply zG) | exact HB.out)⟩⟩
   case round =>
    clear H'
    try clear c2
    try clear c2b0
    try clear c2b1
    try clear p2
    try clear c3
    try clear c3b0
    try clear c3b1
    obtain ⟨x3_1, x4_1, rfl, HA, HK1, HO_3, HB⟩ := hrel
    cases gk with
    | zero => exact absurd HA.out (by simp [laws_toPageS.l0])
    | succ k1 =>
     have H := HA.out; clear HA; simp only [laws_toPageS.l0] at H
     by_cases c6 : x4_1 < (l0.length : Int)
     ·rw [if_pos c6] at H
      have c6b0 : decide (x4_1 < (l0.length : Int)) = true := zX c6; clear c6
      by_cases c7 : 0 ≤ x4_1
      ·rw [if_pos c7] at H
       have c7b0 : decide (0 ≤ x4_1) = true := zX c7; clear c7; replace H := zAF H; obtain ⟨⟨t20, t21, t22⟩, A80, H⟩ := H; replace H : (if x4_1 < (x3_1.length : Int) then (laws_toPageS.l0 k1 l0 (x3_1.set (x4_1 : Int).toNat (⟨t20, t21, t22⟩ : S97)) (wrap64 (x4_1 + 1))) else (none)) = some r := H; have A8 := zA A80; clear A80
       by_cases c9 : x4_1 < (x3_1.length : Int)
       ·rw [if_pos c9] at H
        have c9b0 : decide (x4_1 < (x3_1.length : Int)) = true := zX c9; clear c9; obtain ⟨y23, hy23⟩ : ∃ y_ : List (S97), y_ = (x3_1.set (x4_1 : Int).toNat (⟨t20, t21, t22⟩ : S97)) := ⟨_, rfl⟩; replace H : (laws_toPageS.l0 k1 l0 y23 (wrap64 (x4_1 + 1))) = some r := by first | (rw [hy23]; with_reducible exact H) | (have H2_ := (Option.bind_some _ _).symm.trans H; rw [hy23]; with_reducible exact H2_) | (have H2_ := (Option.bind_some _ _).symm.trans H; with_reducible exact H2_) | with_reducible exact H | (rw [hy23]; exact H) | exact H
        have Ny23 := zA hy23; clear hy23; have H' := zA H; clear H; have p24 : 0 ≤ (x4_1 : Int) := zW (by first | (with_reducible assumption) | assumption); have q24 : x4_1 < (l0.length : Int) := zW (by first | (with_reducible assumption) | assumption); obtain ⟨ad24, A24_0, c24_0, A24_1, c24_1, A24_2, c24_2, e24, hx24_0, hx24_1, hx24_2, hl24_0, hi24_0, hl24_1, hi24_1, hl24_2, hi24_2⟩ := at_T87 HR0.out x4_1 p24 q24
        cases e24
        replace hx24_0 := (HB.out.cell (zB w _ hx24_0)).trans hx24_0; replace hx24_1 := (HB.out.cell (zB w _ hx24_1)).trans hx24_1; replace hx24_2 := (HB.out.cell (zB w _ hx24_2)).trans hx24_2; have HR24_0 := zA hi24_0; have HC24_0 := zA hl24_0; clear hi24_0 hl24_0; have HR24_1 := zA hi24_1; have HC24_1 := zA hl24_1; clear hi24_1 hl24_1; have HR24_2 := zA hi24_2; have HC24_2 := zA hl24_2; clear hi24_2 hl24_2; replace p24 := eq_true p24; replace q24 := eq_true q24; go_wp2_with (first | ((with_reducible refine gate_callee (f := 60) rfl ?_); refine goesL_ (some 20) rfl rfl Try.func60 (by kernel_rfl) rfl #[.agg #[.slice A24_0 ((rd_T87 l0 x4_1).f0).length c24_0, .slice A24_1 ((rd_T87 l0 x4_1).f1).length c24_1, .slice A24_2 ((rd_T87 l0 x4_1).f2).length c24_2]] rfl (by (try simp only [zAA, zAB, zAC]); first | done | rfl | (simp only [zZ, zY]; rfl)) ?_; (with_reducible refine (laws_toPage.calls k1 _ _ ((rd_T87 l0 x4_1).f0) _ _ ((rd_T87 l0 x4_1).f1) _ _ ((rd_T87 l0 x4_1).f2) t20 t21 t22 _ ?side1 ?side2 ?side3 ?side4 ?side5 ?side6 A8.out).mono ?_); (case side1 => repeat (first | exact (Kd.C_below HR24_0.out HB.out) | (with_reducible refine zT ?_ _) | (with_reducible refine zU ?_ _) | (with_reducible refine zV ?_))); (case side2 => exact HC24_0.out); (case side3 => repeat (first | exact (Kd.C_below HR24_1.out HB.out) | (with_reducible refine zT ?_ _) | (with_reducible refine zU ?_ _) | (with_reducible refine zV ?_))); (case side4 => exact HC24_1.out); (case side5 => repeat (first | exact (Kd.C_below HR24_2.out HB.out) | (with_reducible refine zT ?_ _) | (with_reducible refine zU ?_ _) | (with_reducible refine zV ?_))); (case side6 => exact HC24_2.out); rintro e w11 ⟨v25, v26, v27, rfl, ho0, ho1, ho2, hb⟩; refine ⟨_, rfl, ?_⟩; have n0_ := zA (Kd.S_mono (Kd.S_told (Kd.S_told (Kd.S_told (Kd.S_old (by (with_reducible repeat (first | apply Kd.S_alloc | apply Kd.S_drewN | apply Kd.S_drew)); exact HO_3.out) hb) (Kd.R_base ho0)) (Kd.R_base ho1)) (Kd.R_base ho2)) (fun _ h_ => h_.1)); have n1_ := zA (Kd.R_lower ho0 (zAE (by repeat (first | (with_reducible first | exact HB.out | apply zH | apply zF | apply zG) | exact HB.out)))); have n2_ := zA (Kd.R_lower ho1 (zAE (by repeat (first | (with_reducible first | exact HB.out | apply zH | apply zF | apply zG) | exact HB.out)))); have n3_ := zA (Kd.R_lower ho2 (zAE (by repeat (first | (with_reducible first | exact HB.out | apply zH | apply zF | apply zG) | exact HB.out)))); have n4_ := zA (zAD (by repeat (first | (with_reducible first | exact HB.out | apply zH | apply zF | apply zG) | exact HB.out)) hb); clear HO_3; clear HB; have HO_3 := n0_; have HO28 := n1_; have HO29 := n2_; have HO30 := n3_; have HB := n4_; clear n0_ n1_ n2_ n3_ n4_; (try clear hb); (try clear ho0); (try clear ho1); (try clear ho2); have p10 : 0 ≤ (x4_1 : Int) := zW (by first | (with_reducible assumption) | assumption); have q10 : (x4_1 : Int) < ((x3_1.length : Int) : Int) := zW (by first | (with_reducible assumption) | assumption); obtain ⟨go10, co10, eo10, gb10, gl10, cl10, HG10⟩ := Kd.S_form HO_3.out (by omega); (first | cases eo10 | (injection eo10 with ea_ en_ ec_; (first | subst ea_ | (injection ea_ with ea_; subst ea_)); subst ec_; clear en_)); have GB10 := zA gb10; have GG10 := zA HG10; clear gb10 gl10 HG10; obtain ⟨_, ce10, hcl10, hM10, hcc10, hfr10, _, _⟩ := Kd.S_elem HO_3.out z97 (x4_1 : Int) p10 q10; obtain ⟨ve10_0, ve10_1, ve10_2, rfl, ge10_0, ge10_1, ge10_2⟩ := a97_openM hM10; have hx10_0 : w11.cell? ⟨go10, (x4_1 : Int).toNat * 3, none⟩ = some (ve10_0) := hcc10 0 _ rfl; have hx10_1 : w11.cell? ⟨go10, (x4_1 : Int).toNat * 3 + 1, none⟩ = some (ve10_1) := hcc10 1 _ rfl; have hx10_2 : w11.cell? ⟨go10, (x4_1 : Int).toNat * 3 + 2, none⟩ = some (ve10_2) := hcc10 2 _ rfl; have hf10_0 : w11.frozen? ⟨go10, (x4_1 : Int).toNat * 3, none⟩ = false := hfr10 0; have hf10_1 : w11.frozen? ⟨go10, (x4_1 : Int).toNat * 3 + 1, none⟩ = false := hfr10 1; have hf10_2 : w11.frozen? ⟨go10, (x4_1 : Int).toNat * 3 + 2, none⟩ = false := hfr10 2; clear hcl10 hcc10 hfr10 hM10; replace p10 := eq_true p10; replace q10 := eq_true q10; obtain ⟨Ao14, co14, eo14⟩ := Kd.R_slice HO28.out; subst eo14; obtain ⟨Ao15, co15, eo15⟩ := Kd.R_slice HO29.out; subst eo15; obtain ⟨Ao16, co16, eo16⟩ := Kd.R_slice HO30.out; subst eo16; have n_ := zA (Kd.S_mono (ok' := (fun k_ => some k_ ≠ (.slice Ao14 t20.length co14 : Value).ownBlock ∧ some k_ ≠ (.slice Ao15 t21.length co15 : Value).ownBlock ∧ some k_ ≠ (.slice Ao16 t22.length co16 : Value).ownBlock)) HO_3.out (fun k_ hk => ⟨hk.1.1.2, ⟨hk.1.2, hk.2⟩⟩)); clear HO_3; have HO_3 := n_; clear n_; have HX12 := zA (show Kd.S a97 97 w11 w.heap.size (fun k_ => ((fun _ => True)) k_ ∧ ¬ ((fun k_ => some k_ = (.slice Ao14 t20.length co14 : Value).ownBlock ∨ some k_ = (.slice Ao15 t21.length co15 : Value).ownBlock ∨ some k_ = (.slice Ao16 t22.length co16 : Value).ownBlock)) k_) (.slice (some ⟨go10, 0, none⟩) x3_1.length co10) x3_1 from (by (with_reducible repeat (first | apply Kd.S_alloc | apply Kd.S_drewN | apply Kd.S_drew)); exact Kd.S_mono HO_3.out (fun k_ hk => ⟨trivial, fun e_ => e_.elim (fun h_ => hk.1 h_) (fun h_ => h_.elim (fun h_ => hk.2.1 h_) (fun h_ => hk.2.2 h_))⟩))); obtain ⟨oki12, ce12, hcl12, hM12, hcc12, hfr12, hoki12, hH12⟩ := Kd.S_elem HX12.out z97 (x4_1 : Int) (zW (by first | (with_reducible assumption) | assumption)) (by have h_ : (x4_1 : Int) < ((x3_1.length : Int) : Int) := zW (by first | (with_reducible assumption) | assumption); first | exact h_ | (have e_ := (Kd.S_reads' HO_3.out).1; omega) | simpa using h_); obtain ⟨ve12_0, ve12_1, ve12_2, rfl, ge12_0, ge12_1, ge12_2⟩ := a97_openM hM12; have HP12 := Kd.S_seg hH12 (zW (by first | (with_reducible assumption) | assumption)) (by have h_ : (x4_1 : Int) < ((x3_1.length : Int) : Int) := zW (by first | (with_reducible assumption) | assumption); first | exact h_ | (have e_ := (Kd.S_reads' HO_3.out).1; omega) | simpa using h_) (seg := [.slice Ao14 t20.length co14, .slice Ao15 t21.length co15, .slice Ao16 t22.length co16]) (j := 0) (show 3 ≤ 3 from by decide) (x' := (⟨t20, t21, t22⟩ : S97)) (a97_mkM _ _ _ (⟨t20, t21, t22⟩ : S97) (Kd.R_mono (Kd.R_tight rfl (Kd.R_mono (ok' := fun k_ => ((fun _ => True)) k_ ∧ k_ ≠ go10) (Kd.R_apart' (HO28.out) (Kd.S_typed HO_3.out) (by decide)) (fun k_ hk => ⟨trivial, fun e_ => (hk.2) (by rw [e_]; rfl)⟩))) (fun _ h_ => Or.inr (Or.inl h_))) (Kd.R_mono (Kd.R_tight rfl (Kd.R_mono (ok' := fun k_ => ((fun _ => True)) k_ ∧ k_ ≠ go10) (Kd.R_apart' (HO29.out) (Kd.S_typed HO_3.out) (by decide)) (fun k_ hk => ⟨trivial, fun e_ => (hk.2) (by rw [e_]; rfl)⟩))) (fun _ h_ => Or.inr (Or.inr (Or.inl h_)))) (Kd.R_mono (Kd.R_tight rfl (Kd.R_mono (ok' := fun k_ => ((fun _ => True)) k_ ∧ k_ ≠ go10) (Kd.R_apart' (HO30.out) (Kd.S_typed HO_3.out) (by decide)) (fun k_ hk => ⟨trivial, fun e_ => (hk.2) (by rw [e_]; rfl)⟩))) (fun _ h_ => Or.inr (Or.inr (Or.inr (h_))))) ⟨fun k_ hk_ => ⟨fun e_ => (HO28.out.1 k_ hk_) e_.symm, ne_types HO28.out HO30.out k_ hk_⟩, fun k_ hk_ => ne_types HO29.out HO30.out k_ hk_⟩) (fun _ hk => hk) (fun k_ hk_ => hk_.elim (fun h_ => ((Kd.R_mono (ok' := fun k_ => ((fun _ => True)) k_ ∧ k_ ≠ go10) (Kd.R_apart' (HO28.out) (Kd.S_typed HO_3.out) (by decide)) (fun k_ hk => ⟨trivial, fun e_ => (hk.2) (by rw [e_]; rfl)⟩))).1 k_ h_.symm) (fun h_ => h_.elim (fun h_ => ((Kd.R_mono (ok' := fun k_ => ((fun _ => True)) k_ ∧ k_ ≠ go10) (Kd.R_apart' (HO29.out) (Kd.S_typed HO_3.out) (by decide)) (fun k_ hk => ⟨trivial, fun e_ => (hk.2) (by rw [e_]; rfl)⟩))).1 k_ h_.symm) (fun h_ => ((Kd.R_mono (ok' := fun k_ => ((fun _ => True)) k_ ∧ k_ ≠ go10) (Kd.R_apart' (HO30.out) (Kd.S_typed HO_3.out) (by decide)) (fun k_ hk => ⟨trivial, fun e_ => (hk.2) (by rw [e_]; rfl)⟩))).1 k_ h_.symm))); have hx12_0 := hcc12 0 _ rfl; (try simp only [show (a97).sz = 3 from rfl, Nat.mul_one, Nat.add_zero] at hx12_0); have hf12_0 := hfr12 0; (try simp only [show (a97).sz = 3 from rfl, Nat.mul_one, Nat.add_zero] at hf12_0); have hx12_1 := hcc12 1 _ rfl; (try simp only [show (a97).sz = 3 from rfl, Nat.mul_one, Nat.add_zero] at hx12_1); have hf12_1 := hfr12 1; (try simp only [show (a97).sz = 3 from rfl, Nat.mul_one, Nat.add_zero] at hf12_1); have hx12_2 := hcc12 2 _ rfl; (try simp only [show (a97).sz = 3 from rfl, Nat.mul_one, Nat.add_zero] at hx12_2); have hf12_2 := hfr12 2; (try simp only [show (a97).sz = 3 from rfl, Nat.mul_one, Nat.add_zero] at hf12_2); clear hcl12 hcc12 hfr12 hM12 hoki12 hH12) | ((with_reducible refine gate_store (t := 97) (p := 21) rfl ?_); refine store_event (t := 97) (p := 21) (v := ?vo_w13) (w1 := (((w11.setCell ⟨go10, (x4_1 : Int).toNat * 3, none⟩ (.slice Ao14 t20.length co14)).setCell ⟨go10, (x4_1 : Int).toNat * 3 + 1, none⟩ (.slice Ao15 t21.length co15)).setCell ⟨go10, (x4_1 : Int).toNat * 3 + 2, none⟩ (.slice Ao16 t22.length co16))) ?hg ?ho ?hn ?hr ?_; (case ho => rfl); (case hg => rfl); (case hn => rfl); (case hr => first | (go_simp; done) | (go_simp; rfl)); intro w13 hw; have hg : w11.grownBy w13 (some go10) := (by rw [hw]; exact HP12.2); have hp_ : Kd.S a97 97 w13 w.heap.size (fun _ => True) (.slice (some ⟨go10, 0, none⟩) x3_1.length co10) y23 := (by rw [hw, Ny23.out]; exact HP12.1); clear HP12; have n0_ := zA (hp_); have n1_ := zA ((by rw [hw]; exact zI (zI (zI (HB.out) GB10.out) GB10.out) GB10.out : Below w.heap.size w w13)); clear HO_3; clear HB; clear HO28; clear HO29; clear HO30; have HO_3 := n0_; have HB := n1_; clear n0_ n1_; clear hg hw hp_))
        go_roundg k1
        case measure => have := HK1.out; omega
        case rel => exact ⟨(y23), (wrap64 (x4_1 + 1)), (by first | rfl | (simp; done) | (simp [*]; done) | (simp [bne]; done)), H', ⟨by have := HK1.out; omega⟩, ⟨by (with_reducible repeat (first | apply Kd.S_alloc | apply Kd.S_drewN | apply Kd.S_drew)); exact HO_3.out⟩, ⟨by repeat (first | (with_reducible first | exact HB.out | apply zH | apply zF | apply zG) | exact HB.out)⟩⟩
       ·rw [if_neg c9] at H
        exact absurd H (by simp)
      ·rw [if_neg c7] at H
       exact absurd H (by simp)
     ·rw [if_neg c6] at H
      have c6b0 : decide (x4_1 < (l0.length : Int)) = false := decide_eq_false c6; clear c6; obtain rfl := Option.some.inj H; go_wp2; go_ret; exact ⟨_, by first | rfl | (simp <;> rfl) | (simp [*] <;> rfl), by (with_reducible repeat (first | apply Kd.S_alloc | apply Kd.S_drewN | apply Kd.S_drew)); exact HO_3.out, by repeat (first | (with_reducible first | exact HB.out | apply zH | apply zF | apply zG) | exact HB.out)⟩
  ·rw [if_neg c3] at H
   exact absurd H (by simp)
 ·rw [if_neg c2] at H
  exact absurd H (by simp)
theorem toTree_calls (k : Nat) (A0_0 : Option Addr) (c0_0 : Nat) (l0_0 : List (S87)) (r : List (S97)) (w : World) (hr0_0 : Kd.C k87 w A0_0 l0_0.length l0_0) (hc0_0 : l0_0.length ≤ c0_0) (h : laws_toTree.f k l0_0 = some r) :
  Calls Try.prog 8 #[.agg #[.slice A0_0 l0_0.length c0_0]] w fun e w' => ∃ v0_ : Value, e = .returned (.agg #[v0_]) ∧ Kd.S a97 97 w' w.heap.size (fun _ => True) v0_ r ∧ Below w.heap.size w w' := by
 have hu24 := Try.underlying24; have hu30 := Try.underlying30; have HR0_0 := zA hr0_0; have HC0_0 := zA hc0_0; clear hr0_0 hc0_0; have HB := zA (Below.refl w.heap.size w); have H : ((laws_toPageS.f k l0_0).bind fun t14 => (some t14)) = some r := h; clear h; replace H := zAF H; obtain ⟨t14, A20, H⟩ := H; replace H : (some t14) = some r := H; have A2 := zA A20; clear A20; obtain rfl := Option.some.inj H; go_enter Try.func8, Try.ntmps8; go_wp2_with (first | ((with_reducible refine gate_dst (N := 1) rfl ?_); refine box_event ?hg (N := 1) ?hd (cs := #[.slice A0_0 l0_0.length c0_0]) (t := 24) ?hr ?_; (case hd => rfl); (case hg => rfl); (case hr => first | (go_simp; done) | (go_simp; rfl)); intro gb15 hg w3 hbox hb; have n0_ := zA (zAD (by repeat (first | (with_reducible first | exact HB.out | apply zH | apply zF | apply zG) | exact HB.out)) hb); have n1_ := zA (hbox); have n2_ := zA ((by rw [hg]; exact (zAE (by repeat (first | (with_reducible first | exact HB.out | apply zH | apply zF | apply zG) | exact HB.out))) : w.heap.size ≤ gb15)); have n3_ := zA ((by rw [hg]; exact (zAE (by repeat (first | (with_reducible first | exact HB.out | apply zH | apply zF | apply zG) | exact HB.out))) : w.heap.size ≤ gb15)); clear HB; have HB := n0_; have BK15 := n1_; have GW15 := n2_; have GE15 := n3_; clear n0_ n1_ n2_ n3_; clear hb hbox hg) | ((with_reducible refine gate_dst (N := 2) rfl ?_); refine box_event ?hg (N := 2) ?hd (cs := #[.slice none 0 0]) (t := 30) ?hr ?_; (case hd => rfl); (case hg => rfl); (case hr => first | (go_simp; done) | (go_simp; rfl)); intro gb16 hg w4 hbox hb; have n0_ := zA (blk_below (g := gb15) (o := .cells #[.slice A0_0 l0_0.length c0_0] 24 (0, 0)) (by (with_reducible repeat (first | refine zL ?_ _ | refine zN ?_ | refine zM ?_ _)); exact BK15.out) hb); have n1_ := zA (zAD (by repeat (first | (with_reducible first | exact HB.out | apply zH | apply zF | apply zG | refine zI ?_ GE15.out) | exact HB.out)) hb); have n2_ := zA (hbox); have n3_ := zA ((by rw [hg]; exact (zAE (by repeat (first | (with_reducible first | exact HB.out | apply zH | apply zF | apply zG | refine zI ?_ GE15.out) | exact HB.out))) : w.heap.size ≤ gb16)); have n4_ := zA ((by rw [hg]; exact (zAE (by repeat (first | (with_reducible first | exact HB.out | apply zH | apply zF | apply zG | refine zI ?_ GE15.out) | exact HB.out))) : w.heap.size ≤ gb16)); have n5_ := zA ((by rw [hg]; exact zK (blk_lt (g := gb15) (o := .cells #[.slice A0_0 l0_0.length c0_0] 24 (0, 0)) (by (with_reducible repeat (first | refine zL ?_ _ | refine zN ?_ | refine zM ?_ _)); exact BK15.out)) : gb15 ≠ gb16)); have n6_ := zA ((by rw [hg]; exact Nat.ne_of_gt (blk_lt (g := gb15) (o := .cells #[.slice A0_0 l0_0.length c0_0] 24 (0, 0)) (by (with_reducible repeat (first | refine zL ?_ _ | refine zN ?_ | refine zM ?_ _)); exact BK15.out)) : gb16 ≠ gb15)); clear BK15; clear HB; have BK15 := n0_; have HB := n1_; have BK16 := n2_; have GW16 := n3_; have GE16 := n4_; have NB15_16 := n5_; have NB16_15 := n6_; clear n0_ n1_ n2_ n3_ n4_ n5_ n6_; clear hb hbox hg) | ((with_reducible refine gate_dst (N := 3) rfl ?_); refine box_event ?hg (N := 3) ?hd (cs := #[.slice none 0 0]) (t := 30) ?hr ?_; (case hd => rfl); (case hg => rfl); (case hr => first | (go_simp; done) | (go_simp; rfl)); intro gb17 hg w5 hbox hb; have n0_ := zA (blk_below (g := gb15) (o := .cells #[.slice A0_0 l0_0.length c0_0] 24 (0, 0)) (by (with_reducible repeat (first | refine zL ?_ _ | refine zN ?_ | refine zM ?_ _)); exact BK15.out) hb); have n1_ := zA (blk_below (g := gb16) (o := .cells #[.slice none 0 0] 30 (0, 0)) (by (with_reducible repeat (first | refine zL ?_ _ | refine zN ?_ | refine zM ?_ _)); exact BK16.out) hb); have n2_ := zA (zAD (by repeat (first | (with_reducible first | exact HB.out | apply zH | apply zF | apply zG | refine zI ?_ GE15.out | refine zI ?_ GE16.out) | exact HB.out)) hb); have n3_ := zA (hbox); have n4_ := zA ((by rw [hg]; exact (zAE (by repeat (first | (with_reducible first | exact HB.out | apply zH | apply zF | apply zG | refine zI ?_ GE15.out | refine zI ?_ GE16.out) | exact HB.out))) : w.heap.size ≤ gb17)); have n5_ := zA ((by rw [hg]; exact (zAE (by repeat (first | (with_reducible first | exact HB.out | apply zH | apply zF | apply zG | refine zI ?_ GE15.out | refine zI ?_ GE16.out) | exact HB.out))) : w.heap.size ≤ gb17)); have n6_ := zA ((by rw [hg]; exact zK (blk_lt (g := gb15) (o := .cells #[.slice A0_0 l0_0.length c0_0] 24 (0, 0)) (by (with_reducible repeat (first | refine zL ?_ _ | refine zN ?_ | refine zM ?_ _)); exact BK15.out)) : gb15 ≠ gb17)); have n7_ := zA ((by rw [hg]; exact Nat.ne_of_gt (blk_lt (g := gb15) (o := .cells #[.slice A0_0 l0_0.length c0_0] 24 (0, 0)) (by (with_reducible repeat (first | refine zL ?_ _ | refine zN ?_ | refine zM ?_ _)); exact BK15.out)) : gb17 ≠ gb15)); have n8_ := zA ((by rw [hg]; exact zK (blk_lt (g := gb16) (o := .cells #[.slice none 0 0] 30 (0, 0)) (by (with_reducible repeat (first | refine zL ?_ _ | refine zN ?_ | refine zM ?_ _)); exact BK16.out)) : gb16 ≠ gb17)); have n9_ := zA ((by rw [hg]; exact Nat.ne_of_gt (blk_lt (g := gb16) (o := .cells #[.slice none 0 0] 30 (0, 0)) (by (with_reducible repeat (first | refine zL ?_ _ | refine zN ?_ | refine zM ?_ _)); exact BK16.out)) : gb17 ≠ gb16)); clear BK15; clear BK16; clear HB; have BK15 := n0_; have BK16 := n1_; have HB := n2_; have BK17 := n3_; have GW17 := n4_; have GE17 := n5_; have NB15_17 := n6_; have NB17_15 := n7_; have NB16_17 := n8_; have NB17_16 := n9_; clear n0_ n1_ n2_ n3_ n4_ n5_ n6_ n7_ n8_ n9_; clear hb hbox hg; have hnb6 := NB15_16.out; have hnc6 := NB16_15.out; have hnb7 := NB15_17.out; have hnc7 := NB17_15.out; have hcz8_0 : w5.cell? ⟨gb15, 0, none⟩ = some (.slice A0_0 l0_0.length c0_0) := (zP BK15.out 0).trans rfl; have hfz8_0 := zO BK15.out 0) | ((with_reducible refine gate_callee (f := 26) rfl ?_); refine goesL_ (some 6) rfl rfl Try.func26 (by kernel_rfl) rfl #[.slice A0_0 l0_0.length c0_0] rfl (by (try simp only [zAA, zAB, zAC]); first | done | rfl | (simp only [zZ, zY]; rfl)) ?_; (with_reducible refine (toPageS_calls k _ _ l0_0 t14 _ ?side1 ?side2 A2.out).mono ?_); (case side1 => repeat (first | exact (Kd.C_below HR0_0.out HB.out) | (with_reducible refine zT ?_ _) | (with_reducible refine zU ?_ _) | (with_reducible refine zV ?_))); (case side2 => exact HC0_0.out); rintro e w9 ⟨v18, rfl, ho0, hb⟩; refine ⟨_, rfl, ?_⟩; have n0_ := zA (Kd.S_lower ho0 (zAE (by repeat (first | (with_reducible first | exact HB.out | apply zH | apply zF | apply zG | refine zI ?_ GE15.out | refine zI ?_ GE16.out | refine zI ?_ GE17.out) | exact HB.out)))); have n1_ := zA (blk_below (g := gb15) (o := .cells #[.slice A0_0 l0_0.length c0_0] 24 (0, 0)) (by (with_reducible repeat (first | refine zL ?_ _ | refine zN ?_ | refine zM ?_ _)); exact BK15.out) hb); have n2_ := zA (blk_below (g := gb16) (o := .cells #[.slice none 0 0] 30 (0, 0)) (by (with_reducible repeat (first | refine zL ?_ _ | refine zN ?_ | refine zM ?_ _)); exact BK16.out) hb); have n3_ := zA (blk_below (g := gb17) (o := .cells #[.slice none 0 0] 30 (0, 0)) (by (with_reducible repeat (first | refine zL ?_ _ | refine zN ?_ | refine zM ?_ _)); exact BK17.out) hb); have n4_ := zA (zAD (by repeat (first | (with_reducible first | exact HB.out | apply zH | apply zF | apply zG | refine zI ?_ GE15.out | refine zI ?_ GE16.out | refine zI ?_ GE17.out) | exact HB.out)) hb); clear BK15; clear BK16; clear BK17; clear HB; have HO19 := n0_; have BK15 := n1_; have BK16 := n2_; have BK17 := n3_; have HB := n4_; clear n0_ n1_ n2_ n3_ n4_; (try clear hb); (try clear ho0); obtain ⟨Ao10, co10, eo10⟩ := Kd.S_slice HO19.out; subst eo10; have hnb11 := NB17_16.out; have hnc11 := NB16_17.out; have hcz12_0 : w9.cell? ⟨gb17, 0, none⟩ = some (.slice none 0 0) := (zP BK17.out 0).trans rfl; have hfz12_0 := zO BK17.out 0; have hcz13_0 : w9.cell? ⟨gb16, 0, none⟩ = some (.slice none 0 0) := (zP BK16.out 0).trans rfl; have hfz13_0 := zO BK16.out 0))
 refine bodyPost_ret (results_cell_row rfl _ _ gb16 30 #[.slice Ao10 t14.length co10] (0, 0) _ rfl (by (with_reducible repeat (first | refine zL ?_ _ | refine zN ?_ | refine zM ?_ _)); refine blk_put (cs := #[.slice none 0 0]) ?_ 0 _ rfl; (with_reducible repeat (first | refine zL ?_ _ | refine zN ?_ | refine zM ?_ _)); refine blk_far ?_ NB16_17.out _; (with_reducible repeat (first | refine zL ?_ _ | refine zN ?_ | refine zM ?_ _)); exact BK16.out) Try.underlying30 rfl (by kernel_rfl)) rfl ?_; exact ⟨_, by first | rfl | (simp <;> rfl) | (simp [*] <;> rfl), by (with_reducible repeat (first | apply Kd.S_alloc | apply Kd.S_drewN | apply Kd.S_drew)); exact Kd.S_mono (Kd.S_far (p := ⟨gb16, 0, none⟩) (Kd.S_far (p := ⟨gb17, 0, none⟩) (Kd.S_types (Kd.S_types HO19.out BK17.out (by decide)) BK16.out (by decide)) (fun _ hk => hk.1.2) (.slice Ao10 t14.length co10)) (fun _ hk => hk.2) (.slice Ao10 t14.length co10)) (fun _ hk => trivial), by repeat (first | (with_reducible first | exact HB.out | apply zH | apply zF | apply zG | refine zI ?_ GE15.out | refine zI ?_ GE16.out | refine zI ?_ GE17.out) | exact HB.out)⟩
end Go.Proofs.Ytnplghcbdaiogaa.RF
end
section
namespace Go.Proofs.Ytnplghcbdaiogaa.RG
open Go.RowKit Go.Proofs.YtnplghcbdaiogaaW.PrintWords Go.Proofs.YtnplghcbdaiogaaW.PrintLast Go.Proofs.YtnplghcbdaiogaaW.PrintMore Go.Proofs.Ytnplghcbdaiogaa.PA Go.Proofs.Ytnplghcbdaiogaa.RF
attribute [local go_sem] max2_int min2_int max_two min_two max_three min_three max_four min_four
set_option linter.unusedVariables false
set_option linter.unusedSimpArgs false
set_option maxHeartbeats 4000000
set_option maxRecDepth 100000
def markL : Nat → List S43 → Int → Int → Option (Int × List S43)
 | 0, _, _, _ => none
 | k + 1, x0, x1, x5 => if x5 < (x0.length : Int) then (if 0 ≤ x5 then ((laws_markStringS.f k (rd_T43 x0 x5).f0 x1).bind fun b0 => ((laws_markStringS.f k (rd_T43 x0 x5).f1 b0.1).bind fun b1 => ((laws_markStringS.f k (rd_T43 x0 x5).f2 b1.1).bind fun b2 => markL k (x0.set x5.toNat ⟨b0.2, b1.2, b2.2, b2.1⟩) (wrap64 (b2.1 + 1)) (wrap64 (x5 + 1))))) else none) else some (x1, x0)
def markF (k : Nat) (l0 : List S43) (a1 : Int) : Option (Int × List S43) := markL k l0 a1 0
theorem kept_set {w W : World} {S : Nat → Prop} (h : Kept w W S) {g : Nat} (hg : S g) (o : Nat) (u : Value) : Kept w (W.setCell ⟨g, o, none⟩ u) S :=
 ⟨by simpa [World.setCell] using h.1, fun i hi hs => (Below.heap_setCell W ⟨g, o, none⟩ u i (fun e => hs (by have e' : i = g := e; rw [e']; exact hg))).trans (h.2 i hi hs)⟩
theorem kept_more {w W W2 : World} {S S2 : Nat → Prop} (h : Kept w W S) (h2 : Kept W W2 S2) (hs : ∀ i, S2 i → S i ∨ w.heap.size ≤ i) : Kept w W2 S :=
 ⟨Nat.le_trans h.1 h2.1, fun i hi hn => (h2.2 i (Nat.lt_of_lt_of_le hi h.1) (fun q => (hs i q).elim hn (fun q2 => by omega))).trans (h.2 i hi hn)⟩
theorem markB (k : Nat) (P0_ : Nat → Prop) (u : Value) (l0 : List S43) (a1 : Int) (r1 : Int) (r2 : List S43) (w0 w : World) (hB : Below w0.heap.size w0 w) (ho0 : Kd.S a43 43 w w0.heap.size P0_ u l0) (h : markF k l0 a1 = some (r1, r2)) :
  Calls Try.prog 15 #[u, .int .i64 a1] w fun e w' => e = .returned (.int .i64 r1) ∧ Kd.S a43 43 w' w0.heap.size (fun k_ => (P0_ k_ ∨ w.heap.size ≤ k_)) u r2 ∧ Below w0.heap.size w0 w' ∧ Kept w w' (fun k_ => P0_ k_) := by
 have HB := zA hB
 have HS := zA (Kd.S_mono ho0 (fun k_ hk => Or.inl hk) : Kd.S a43 43 w w0.heap.size (fun k_ => P0_ k_ ∨ w.heap.size ≤ k_) u l0)
 have HKP := zA (Kept.refl w (fun k_ => P0_ k_))
 have H' := zA (show markL k l0 a1 0 = some (r1, r2) from h)
 have HOP := zA (show ∀ k_, u.ownBlock = some k_ → P0_ k_ from fun k_ e => (Kd.S_R ho0).1 k_ e)
 obtain ⟨A0, c0, eo⟩ := Kd.S_slice ho0
 subst eo
 have hu38 := Try.underlying43
 clear hB ho0 h
 go_enter Try.func15, Try.ntmps15
 go_wp2
 go_loopg [1, 5] k (fun kq v1 v5 w' => ∃ (xs : List S43) (kk z : Int), v1 = .int .i64 kk ∧ v5 = .int .i64 z ∧ Aside0 (markL kq xs kk z = some (r1, r2)) ∧ Aside0 (kq ≤ k) ∧ Aside0 (xs.length = l0.length) ∧ Aside0 (Kd.S a43 43 w' w0.heap.size (fun k_ => P0_ k_ ∨ w.heap.size ≤ k_) (.slice A0 l0.length c0) xs) ∧ Aside0 (Below w0.heap.size w0 w') ∧ Aside0 (Kept w w' (fun k_ => P0_ k_)))
 case atStart => exact ⟨l0, a1, 0, rfl, rfl, H', ⟨Nat.le_refl _⟩, ⟨rfl⟩, HS, HB, HKP⟩
 case round =>
  clear H' HS HB HKP
  obtain ⟨xs, kk, z, rfl, rfl, HM, HK1, HXL, HS, HB, HKP⟩ := hrel
  cases gk with
  | zero => exact absurd HM.out (by simp [markL])
  | succ k1 =>
   have H := HM.out
   clear HM
   rw [markL, HXL.out] at H
   by_cases c1 : z < (l0.length : Int)
   ·rw [if_pos c1] at H
    by_cases c2 : 0 ≤ z
    ·rw [if_pos c2] at H
     obtain ⟨ad, c9, eA⟩ := Kd.R_slice1 (Kd.S_R HS.out) (by have := HXL.out; omega)
     injection eA with eA eL eC
     clear eL eC
     subst eA
     obtain ⟨g, eg⟩ := Kd.R_head (Kd.S_R HS.out)
     subst eg
     replace H := zAF H
     obtain ⟨⟨m0, t0⟩, h0, H⟩ := H
     replace H := zAF H
     obtain ⟨⟨m1, t1⟩, h1, H⟩ := H
     replace H := zAF H
     obtain ⟨⟨m2, t2⟩, h2, H⟩ := H
     have H0 := zA h0
     have H1 := zA h1
     have H2 := zA h2
     have H' := zA (show markL k1 (xs.set z.toNat ⟨t0, t1, t2, m2⟩) (wrap64 (m2 + 1)) (wrap64 (z + 1)) = some (r1, r2) from H)
     have HZ0 := zA c2
     have HZN := zA c1
     have q1 : (z < (l0.length : Int)) = True := eq_true c1
     have q2 : decide (z < (l0.length : Int)) = true := decide_eq_true c1
     have q3 : (0 ≤ z) = True := eq_true c2
     have q4 : decide (0 ≤ z) = true := decide_eq_true c2
     have HPG := zA (show P0_ g from HOP.out g (by simp [Value.ownBlock]))
     have HGB := zA (show w0.heap.size ≤ g from Kd.R_base (Kd.S_R HS.out) g (by simp [Value.ownBlock]))
     obtain ⟨x, hx⟩ : ∃ x, x = rd_T43 xs z := ⟨_, rfl⟩
     rw [← hx] at H0 H1 H2
     have HX := zA hx
     have HIX := zA (show z.toNat < xs.length from by have := HXL.out; omega)
     clear h0 h1 h2 H c1 c2 hx
     obtain ⟨B0, d0, B1, d1, B2, d2, hc0, hc1, hc2, hc3, hf3, hr0, hr1, hr2, ho0, ho1, ho2, hb0, hb1, hb2, hb3⟩ := lendX HS.out z HZ0.out HZN.out x HX.out.symm
     have HR := zA hr0
     have HO := zA ho0
     have HBK := zA hb0
     clear hr0 hr1 hr2 ho0 ho1 ho2 hb0 hb1 hb2 hb3 hc1 hc2 hc3 hf3
     go_wp2_with (first | ((with_reducible refine gate_dst (N := 18) rfl ?_); refine goesL_ (some 18) rfl rfl Try.func39 (by kernel_rfl) rfl #[.slice B0 x.f0.length d0, .int .i64 kk] rfl (by (try simp only [zAA, zAB, zAC]); first | done | rfl) ?_; refine (laws_markStringS.calls k1 (fun k_ => some k_ = (Value.slice B0 x.f0.length d0).ownBlock) (.slice B0 x.f0.length d0) x.f0 kk m0 t0 w0 _ HB.out HR.out H0.out).mono ?_; rintro e w18 ⟨rfl, hr, hb, hk⟩; refine ⟨_, rfl, ?_⟩; have n0_ := zA (HBK.out _ _ hk hr); have n1_ := zA hb; have n2_ := zA (kept_more HKP.out hk (fun i hi => HO.out i hi)); clear HS HB HKP HR HO HBK hc0 hr hb hk; obtain ⟨y0, hy⟩ : ∃ q, q = xs.set z.toNat (⟨t0, x.f1, x.f2, x.f3⟩ : S43) := ⟨_, rfl⟩; rw [← hy] at n0_; have HS := n0_; have HB := n1_; have HKP := n2_; clear n0_ n1_ n2_; have HXS := zA hy; clear hy; obtain ⟨B0, d0, B1, d1, B2, d2, hc0, hc1, hc2, hc3, hf3, hr0, hr1, hr2, ho0, ho1, ho2, hb0, hb1, hb2, hb3⟩ := lendX HS.out z HZ0.out HZN.out ⟨t0, x.f1, x.f2, x.f3⟩ (by rw [HXS.out]; exact rd_set43 _ _ _ HIX.out); have HR := zA hr1; have HO := zA ho1; have HBK := zA hb1; clear hr0 hr1 hr2 ho0 ho1 ho2 hb0 hb1 hb2 hb3 hc0 hc2 hc3 hf3) | ((with_reducible refine gate_dst (N := 25) rfl ?_); refine goesL_ (some 25) rfl rfl Try.func39 (by kernel_rfl) rfl #[.slice B1 x.f1.length d1, .int .i64 m0] rfl (by (try simp only [zAA, zAB, zAC]); first | done | rfl) ?_; refine (laws_markStringS.calls k1 (fun k_ => some k_ = (Value.slice B1 x.f1.length d1).ownBlock) (.slice B1 x.f1.length d1) x.f1 m0 m1 t1 w0 _ HB.out HR.out H1.out).mono ?_; rintro e w25 ⟨rfl, hr, hb, hk⟩; refine ⟨_, rfl, ?_⟩; have n0_ := zA (by have := HBK.out _ _ hk hr; rw [HXS.out, List.set_set] at this; exact this : Kd.S a43 43 w25 w0.heap.size (fun k_ => P0_ k_ ∨ w.heap.size ≤ k_) (.slice (some ⟨g, 0, none⟩) l0.length c0) (xs.set z.toNat ⟨t0, t1, x.f2, x.f3⟩)); have n1_ := zA hb; have n2_ := zA (kept_more HKP.out hk (fun i hi => HO.out i hi)); clear HS HB HKP HR HO HBK hc1 hr hb hk; obtain ⟨y1, hy⟩ : ∃ q, q = xs.set z.toNat (⟨t0, t1, x.f2, x.f3⟩ : S43) := ⟨_, rfl⟩; rw [← hy] at n0_; have HS := n0_; have HB := n1_; have HKP := n2_; clear n0_ n1_ n2_ HXS; have HXS := zA hy; clear hy; obtain ⟨B0, d0, B1, d1, B2, d2, hc0, hc1, hc2, hc3, hf3, hr0, hr1, hr2, ho0, ho1, ho2, hb0, hb1, hb2, hb3⟩ := lendX HS.out z HZ0.out HZN.out ⟨t0, t1, x.f2, x.f3⟩ (by rw [HXS.out]; exact rd_set43 _ _ _ HIX.out); have HR := zA hr2; have HO := zA ho2; have HBK := zA hb2; clear hr0 hr1 hr2 ho0 ho1 ho2 hb0 hb1 hb2 hb3 hc0 hc1 hc3 hf3) | ((with_reducible refine gate_dst (N := 32) rfl ?_); refine goesL_ (some 32) rfl rfl Try.func39 (by kernel_rfl) rfl #[.slice B2 x.f2.length d2, .int .i64 m1] rfl (by (try simp only [zAA, zAB, zAC]); first | done | rfl) ?_; refine (laws_markStringS.calls k1 (fun k_ => some k_ = (Value.slice B2 x.f2.length d2).ownBlock) (.slice B2 x.f2.length d2) x.f2 m1 m2 t2 w0 _ HB.out HR.out H2.out).mono ?_; rintro e w32 ⟨rfl, hr, hb, hk⟩; refine ⟨_, rfl, ?_⟩; have n0_ := zA (by have := HBK.out _ _ hk hr; rw [HXS.out, List.set_set] at this; exact this : Kd.S a43 43 w32 w0.heap.size (fun k_ => P0_ k_ ∨ w.heap.size ≤ k_) (.slice (some ⟨g, 0, none⟩) l0.length c0) (xs.set z.toNat ⟨t0, t1, t2, x.f3⟩)); have n1_ := zA hb; have n2_ := zA (kept_more HKP.out hk (fun i hi => HO.out i hi)); clear HS HB HKP HR HO HBK hc2 hr hb hk; obtain ⟨y2, hy⟩ : ∃ q, q = xs.set z.toNat (⟨t0, t1, t2, x.f3⟩ : S43) := ⟨_, rfl⟩; rw [← hy] at n0_; have HS := n0_; have HB := n1_; have HKP := n2_; clear n0_ n1_ n2_ HXS; have HXS := zA hy; clear hy; obtain ⟨B0, d0, B1, d1, B2, d2, hc0, hc1, hc2, hc3, hf3, hr0, hr1, hr2, ho0, ho1, ho2, hb0, hb1, hb2, hb3⟩ := lendX HS.out z HZ0.out HZN.out ⟨t0, t1, t2, x.f3⟩ (by rw [HXS.out]; exact rd_set43 _ _ _ HIX.out); have HBK := zA hb3; clear hr0 hr1 hr2 ho0 ho1 ho2 hb0 hb1 hb2 hb3 hc0 hc1 hc2))
     go_roundg k1
     case measure => have := HK1.out; omega
     case rel => exact ⟨_, _, _, rfl, rfl, H', ⟨by have := HK1.out; omega⟩, ⟨by rw [List.length_set]; exact HXL.out⟩, ⟨by have := HBK.out m2; rw [HXS.out, List.set_set] at this; exact this⟩, below_set HB.out HGB.out (j := z.toNat * 4 + 3) (v := .int .i64 m2) |> zA, zA (kept_set HKP.out HPG.out (z.toNat * 4 + 3) (.int .i64 m2))⟩
    ·rw [if_neg c2] at H; exact absurd H (by simp)
   ·rw [if_neg c1] at H
    have q3 : decide (z < (l0.length : Int)) = false := decide_eq_false c1
    simp only [Option.some.injEq, Prod.mk.injEq] at H
    obtain ⟨rfl, rfl⟩ := H
    clear c1
    go_wp2
    go_ret
    exact ⟨by first | rfl | (simp <;> rfl), HS.out, HB.out, HKP.out⟩
def markPL : Nat → List S97 → Int → Int → Option (Int × List S97)
 | 0, _, _, _ => none
 | k + 1, x0, x1, x5 => if x5 < (x0.length : Int) then (if 0 ≤ x5 then ((laws_markStringS.f k (rd_T97 x0 x5).f0 x1).bind fun b0 => ((laws_markStringS.f k (rd_T97 x0 x5).f1 b0.1).bind fun b1 => ((laws_markIntS.f k (rd_T97 x0 x5).f2 b1.1).bind fun b2 => markPL k (x0.set x5.toNat ⟨b0.2, b1.2, b2.2⟩) b2.1 (wrap64 (x5 + 1))))) else none) else some (x1, x0)
def markPF (k : Nat) (l0 : List S97) (a1 : Int) : Option (Int × List S97) := markPL k l0 a1 0
theorem markPB (k : Nat) (P0_ : Nat → Prop) (u : Value) (l0 : List S97) (a1 : Int) (r1 : Int) (r2 : List S97) (w0 w : World) (hB : Below w0.heap.size w0 w) (ho0 : Kd.S a97 97 w w0.heap.size P0_ u l0) (h : markPF k l0 a1 = some (r1, r2)) :
  Calls Try.prog 38 #[u, .int .i64 a1] w fun e w' => e = .returned (.int .i64 r1) ∧ Kd.S a97 97 w' w0.heap.size (fun k_ => (P0_ k_ ∨ w.heap.size ≤ k_)) u r2 ∧ Below w0.heap.size w0 w' ∧ Kept w w' (fun k_ => P0_ k_) := by
 have HB := zA hB
 have HS := zA (Kd.S_mono ho0 (fun k_ hk => Or.inl hk) : Kd.S a97 97 w w0.heap.size (fun k_ => P0_ k_ ∨ w.heap.size ≤ k_) u l0)
 have HKP := zA (Kept.refl w (fun k_ => P0_ k_))
 have H' := zA (show markPL k l0 a1 0 = some (r1, r2) from h)
 have HOP := zA (show ∀ k_, u.ownBlock = some k_ → P0_ k_ from fun k_ e => (Kd.S_R ho0).1 k_ e)
 obtain ⟨A0, c0, eo⟩ := Kd.S_slice ho0
 subst eo
 have hu38 := Try.underlying97
 clear hB ho0 h
 go_enter Try.func38, Try.ntmps38
 go_wp2
 go_loopg [1, 5] k (fun kq v1 v5 w' => ∃ (xs : List S97) (kk z : Int), v1 = .int .i64 kk ∧ v5 = .int .i64 z ∧ Aside0 (markPL kq xs kk z = some (r1, r2)) ∧ Aside0 (kq ≤ k) ∧ Aside0 (xs.length = l0.length) ∧ Aside0 (Kd.S a97 97 w' w0.heap.size (fun k_ => P0_ k_ ∨ w.heap.size ≤ k_) (.slice A0 l0.length c0) xs) ∧ Aside0 (Below w0.heap.size w0 w') ∧ Aside0 (Kept w w' (fun k_ => P0_ k_)))
 case atStart => exact ⟨l0, a1, 0, rfl, rfl, H', ⟨Nat.le_refl _⟩, ⟨rfl⟩, HS, HB, HKP⟩
 case round =>
  clear H' HS HB HKP
  obtain ⟨xs, kk, z, rfl, rfl, HM, HK1, HXL, HS, HB, HKP⟩ := hrel
  cases gk with
  | zero => exact absurd HM.out (by simp [markPL])
  | succ k1 =>
   have H := HM.out
   clear HM
   rw [markPL, HXL.out] at H
   by_cases c1 : z < (l0.length : Int)
   ·rw [if_pos c1] at H
    by_cases c2 : 0 ≤ z
    ·rw [if_pos c2] at H
     obtain ⟨ad, c9, eA⟩ := Kd.R_slice1 (Kd.S_R HS.out) (by have := HXL.out; omega)
     injection eA with eA eL eC
     clear eL eC
     subst eA
     obtain ⟨g, eg⟩ := Kd.R_head (Kd.S_R HS.out)
     subst eg
     replace H := zAF H
     obtain ⟨⟨m0, t0⟩, h0, H⟩ := H
     replace H := zAF H
     obtain ⟨⟨m1, t1⟩, h1, H⟩ := H
     replace H := zAF H
     obtain ⟨⟨m2, t2⟩, h2, H⟩ := H
     have H0 := zA h0
     have H1 := zA h1
     have H2 := zA h2
     have H' := zA (show markPL k1 (xs.set z.toNat ⟨t0, t1, t2⟩) m2 (wrap64 (z + 1)) = some (r1, r2) from H)
     have HZ0 := zA c2
     have HZN := zA c1
     have q1 : (z < (l0.length : Int)) = True := eq_true c1
     have q2 : decide (z < (l0.length : Int)) = true := decide_eq_true c1
     have q3 : (0 ≤ z) = True := eq_true c2
     have q4 : decide (0 ≤ z) = true := decide_eq_true c2
     have HPG := zA (show P0_ g from HOP.out g (by simp [Value.ownBlock]))
     have HGB := zA (show w0.heap.size ≤ g from Kd.R_base (Kd.S_R HS.out) g (by simp [Value.ownBlock]))
     obtain ⟨x, hx⟩ : ∃ x, x = rd_T97 xs z := ⟨_, rfl⟩
     rw [← hx] at H0 H1 H2
     have HX := zA hx
     have HIX := zA (show z.toNat < xs.length from by have := HXL.out; omega)
     clear h0 h1 h2 H c1 c2 hx
     obtain ⟨B0, d0, B1, d1, B2, d2, hc0, hc1, hc2, hr0, hr1, hr2, ho0, ho1, ho2, hb0, hb1, hb2⟩ := lend97 HS.out z HZ0.out HZN.out x HX.out.symm
     have HR := zA hr0
     have HO := zA ho0
     have HBK := zA hb0
     clear hr0 hr1 hr2 ho0 ho1 ho2 hb0 hb1 hb2 hc1 hc2
     go_wp2_with (first | ((with_reducible refine gate_dst (N := 18) rfl ?_); refine goesL_ (some 18) rfl rfl Try.func39 (by kernel_rfl) rfl #[.slice B0 x.f0.length d0, .int .i64 kk] rfl (by (try simp only [zAA, zAB, zAC]); first | done | rfl) ?_; refine (laws_markStringS.calls k1 (fun k_ => some k_ = (Value.slice B0 x.f0.length d0).ownBlock) (.slice B0 x.f0.length d0) x.f0 kk m0 t0 w0 _ HB.out HR.out H0.out).mono ?_; rintro e w18 ⟨rfl, hr, hb, hk⟩; refine ⟨_, rfl, ?_⟩; have n0_ := zA (HBK.out _ _ hk hr); have n1_ := zA hb; have n2_ := zA (kept_more HKP.out hk (fun i hi => HO.out i hi)); clear HS HB HKP HR HO HBK hc0 hr hb hk; obtain ⟨y0, hy⟩ : ∃ q, q = xs.set z.toNat (⟨t0, x.f1, x.f2⟩ : S97) := ⟨_, rfl⟩; rw [← hy] at n0_; have HS := n0_; have HB := n1_; have HKP := n2_; clear n0_ n1_ n2_; have HXS := zA hy; clear hy; obtain ⟨B0, d0, B1, d1, B2, d2, hc0, hc1, hc2, hr0, hr1, hr2, ho0, ho1, ho2, hb0, hb1, hb2⟩ := lend97 HS.out z HZ0.out HZN.out ⟨t0, x.f1, x.f2⟩ (by rw [HXS.out]; exact rd_set97 _ _ _ HIX.out); have HR := zA hr1; have HO := zA ho1; have HBK := zA hb1; clear hr0 hr1 hr2 ho0 ho1 ho2 hb0 hb1 hb2 hc0 hc2) | ((with_reducible refine gate_dst (N := 25) rfl ?_); refine goesL_ (some 25) rfl rfl Try.func39 (by kernel_rfl) rfl #[.slice B1 x.f1.length d1, .int .i64 m0] rfl (by (try simp only [zAA, zAB, zAC]); first | done | rfl) ?_; refine (laws_markStringS.calls k1 (fun k_ => some k_ = (Value.slice B1 x.f1.length d1).ownBlock) (.slice B1 x.f1.length d1) x.f1 m0 m1 t1 w0 _ HB.out HR.out H1.out).mono ?_; rintro e w25 ⟨rfl, hr, hb, hk⟩; refine ⟨_, rfl, ?_⟩; have n0_ := zA (by have := HBK.out _ _ hk hr; rw [HXS.out, List.set_set] at this; exact this : Kd.S a97 97 w25 w0.heap.size (fun k_ => P0_ k_ ∨ w.heap.size ≤ k_) (.slice (some ⟨g, 0, none⟩) l0.length c0) (xs.set z.toNat ⟨t0, t1, x.f2⟩)); have n1_ := zA hb; have n2_ := zA (kept_more HKP.out hk (fun i hi => HO.out i hi)); clear HS HB HKP HR HO HBK hc1 hr hb hk; obtain ⟨y1, hy⟩ : ∃ q, q = xs.set z.toNat (⟨t0, t1, x.f2⟩ : S97) := ⟨_, rfl⟩; rw [← hy] at n0_; have HS := n0_; have HB := n1_; have HKP := n2_; clear n0_ n1_ n2_ HXS; have HXS := zA hy; clear hy; obtain ⟨B0, d0, B1, d1, B2, d2, hc0, hc1, hc2, hr0, hr1, hr2, ho0, ho1, ho2, hb0, hb1, hb2⟩ := lend97 HS.out z HZ0.out HZN.out ⟨t0, t1, x.f2⟩ (by rw [HXS.out]; exact rd_set97 _ _ _ HIX.out); have HR := zA hr2; have HO := zA ho2; have HBK := zA hb2; clear hr0 hr1 hr2 ho0 ho1 ho2 hb0 hb1 hb2 hc0 hc1) | ((with_reducible refine gate_dst (N := 32) rfl ?_); refine goesL_ (some 32) rfl rfl Try.func48 (by kernel_rfl) rfl #[.slice B2 x.f2.length d2, .int .i64 m1] rfl (by (try simp only [zAA, zAB, zAC]); first | done | rfl) ?_; refine (laws_markIntS.calls k1 (fun k_ => some k_ = (Value.slice B2 x.f2.length d2).ownBlock) (.slice B2 x.f2.length d2) x.f2 m1 m2 t2 w0 _ HB.out HR.out H2.out).mono ?_; rintro e w32 ⟨rfl, hr, hb, hk⟩; refine ⟨_, rfl, ?_⟩; have n0_ := zA (by have := HBK.out _ _ hk hr; rw [HXS.out, List.set_set] at this; exact this : Kd.S a97 97 w32 w0.heap.size (fun k_ => P0_ k_ ∨ w.heap.size ≤ k_) (.slice (some ⟨g, 0, none⟩) l0.length c0) (xs.set z.toNat ⟨t0, t1, t2⟩)); have n1_ := zA hb; have n2_ := zA (kept_more HKP.out hk (fun i hi => HO.out i hi)); clear HS HB HKP HR HO HBK hc2 hr hb hk; obtain ⟨y2, hy⟩ : ∃ q, q = xs.set z.toNat (⟨t0, t1, t2⟩ : S97) := ⟨_, rfl⟩; rw [← hy] at n0_; have HS := n0_; have HB := n1_; have HKP := n2_; clear n0_ n1_ n2_ HXS; have HXS := zA hy; clear hy))
     go_roundg k1
     case measure => have := HK1.out; omega
     case rel => exact ⟨_, _, _, rfl, rfl, H', ⟨by have := HK1.out; omega⟩, ⟨by rw [List.length_set]; exact HXL.out⟩, ⟨by have := HS.out; rw [HXS.out] at this; exact this⟩, HB, HKP⟩
    ·rw [if_neg c2] at H; exact absurd H (by simp)
   ·rw [if_neg c1] at H
    have q3 : decide (z < (l0.length : Int)) = false := decide_eq_false c1
    simp only [Option.some.injEq, Prod.mk.injEq] at H
    obtain ⟨rfl, rfl⟩ := H
    clear c1
    go_wp2
    go_ret
    exact ⟨by first | rfl | (simp <;> rfl), HS.out, HB.out, HKP.out⟩
theorem markTB (k : Nat) (P0_ : Nat → Prop) (u : Value) (l0 : List S97) (a1 : Int) (r1 : Int) (r2 : List S97) (w0 w : World) (hB : Below w0.heap.size w0 w) (ho0 : Kd.S a97 97 w w0.heap.size P0_ u l0) (h : markPF k l0 a1 = some (r1, r2)) :
  Calls Try.prog 14 #[.agg #[u], .int .i64 a1] w fun e w' => e = .returned (.int .i64 r1) ∧ Kd.S a97 97 w' w0.heap.size (fun k_ => (P0_ k_ ∨ w.heap.size ≤ k_)) u r2 ∧ Below w0.heap.size w0 w' ∧ Kept w w' (fun k_ => P0_ k_) := by
 have HB := zA hB
 have HS := zA ho0
 have H := zA h
 have HKP := zA (Kept.refl w (fun k_ => P0_ k_))
 have HW := zA (Nat.le_refl w.heap.size)
 have hu30 := Try.underlying30
 clear hB ho0 h
 go_enter Try.func14, Try.ntmps14
 go_wp2_with (first | ((with_reducible refine gate_dst (N := 2) rfl ?_); refine box_event ?hg (N := 2) ?hd (cs := #[u]) (t := 30) ?hr ?_; (case hd => rfl); (case hg => rfl); (case hr => first | (go_simp; done) | (go_simp; rfl)); intro gb1 hg w3 hbox hb; have n0_ := zA (zAD HB.out hb); have n1_ := zA (Kd.S_below HS.out hb); have n2_ := zA (Kept.of_below hb (fun k_ => P0_ k_)); have n3_ := zA hb.size; clear HB HS HKP HW; have HB := n0_; have HS := n1_; have HKP := n2_; have HW := n3_; clear n0_ n1_ n2_ n3_ hb hg; have hx1 : w3.cell? ⟨gb1, 0, none⟩ = some u := (zP hbox 0).trans rfl; clear hbox) | ((with_reducible refine gate_dst (N := 8) rfl ?_); refine goesL_ (some 8) rfl rfl Try.func38 (by kernel_rfl) rfl #[u, .int .i64 a1] rfl (by (try simp only [zAA, zAB, zAC]); first | done | rfl) ?_; refine (markPB k P0_ u l0 a1 r1 r2 w0 _ HB.out HS.out H.out).mono ?_; rintro e w8 ⟨rfl, hr, hb, hk⟩; refine ⟨_, rfl, ?_⟩; have n0_ := zA (Kd.S_mono hr (fun k_ hk_ => hk_.elim Or.inl (fun h_ => Or.inr (Nat.le_trans HW.out h_))) : Kd.S a97 97 w8 w0.heap.size (fun k_ => (P0_ k_ ∨ w.heap.size ≤ k_)) u r2); have n2_ := zA (kept_more HKP.out hk (fun i hi => Or.inl hi)); clear HB HS HKP; have HB := zA hb; have HS := n0_; have HKP := n2_; clear n0_ n2_ hr hb hk hx1))
 go_ret
 exact ⟨by first | rfl | (simp <;> rfl), HS.out, HB.out, HKP.out⟩
end Go.Proofs.Ytnplghcbdaiogaa.RG
end
section
namespace Go.Proofs.Ytnplghcbdaiogaa.PB
open Go.RowKit Go.Proofs.YtnplghcbdaiogaaW.PrintWords Go.Proofs.YtnplghcbdaiogaaW.PrintLast Go.Proofs.YtnplghcbdaiogaaW.PrintMore
set_option linter.unusedVariables false
theorem ev_pos {α : Type} {c : Prop} [Decidable c] {f g : Nat → Option α} {r : α} (hc : c) (h : Ev f r) : Ev (fun k => if c then f k else g k) r := by
 simp only [if_pos hc]; exact h
theorem ev_neg {α : Type} {c : Prop} [Decidable c] {f g : Nat → Option α} {r : α} (hc : ¬ c) (h : Ev g r) : Ev (fun k => if c then f k else g k) r := by
 simp only [if_neg hc]; exact h
theorem ev_bind {α β : Type} {g : Nat → Option α} {f : Nat → α → Option β} {a : α} {r : β} (h : Ev g a) (k : Ev (fun n => f n a) r) : Ev (fun n => (g n).bind (f n)) r := Ev.bind h k
theorem ev_const {α β : Type} {o : Option α} {f : Nat → α → Option β} {a : α} {r : β} (h : o = some a) (k : Ev (fun n => f n a) r) : Ev (fun n => o.bind (f n)) r := by
 subst h; exact k
theorem ev_eq {α : Type} {f : Nat → Option α} {r r' : α} (h : Ev f r) (e : r = r') : Ev f r' := e ▸ h
theorem w64 {x : Int} (h0 : -9223372036854775808 ≤ x) (h1 : x ≤ 9223372036854775807) : wrap64 x = x := by
 unfold wrap64; omega
theorem size_toList (s : ByteArray) : s.toList.length = s.size := by rw [ByteArray.toList_eq]; exact data_length s
theorem bt_get (s : ByteArray) (i : Nat) (h : i < s.size) : bt s (i : Int) = ((s.toList.getD i 0).toNat : Int) := by
 rw [ByteArray.toList_eq]
 unfold bt
 rw [dif_pos (by simpa using h)]
 have h' : i < s.data.toList.length := by rw [data_length]; exact h
 simp [List.getD_eq_getElem?_getD, List.getElem?_eq_getElem h']
 rfl
end Go.Proofs.Ytnplghcbdaiogaa.PB
end
section
namespace Go.Proofs.Ytnplghcbdaiogaa.PD
open Go.RowKit Go.Proofs.YtnplghcbdaiogaaW.PrintWords Go.Proofs.YtnplghcbdaiogaaW.PrintLast Go.Proofs.YtnplghcbdaiogaaW.PrintMore Go.Proofs.Ytnplghcbdaiogaa.PB Go.Proofs.Ytnplghcbdaiogaa.PA
set_option linter.unusedVariables false
def dstep (p : Int × Int) (c : UInt8) : Int × Int := ((p.1 + (c.toNat : Int)) % 65521, (p.2 + (p.1 + (c.toNat : Int)) % 65521) % 65521)
def dfold (p : Int × Int) (l : List UInt8) : Int × Int := l.foldl dstep p
def InP (p : Int × Int) : Prop := 0 ≤ p.1 ∧ p.1 < 65521 ∧ 0 ≤ p.2 ∧ p.2 < 65521
theorem dstep_in {p : Int × Int} {c : UInt8} : InP (dstep p c) := by
 unfold InP dstep; refine ⟨?_, ?_, ?_, ?_⟩ <;> simp only <;> omega
theorem dfold_in {p : Int × Int} (h : InP p) (l : List UInt8) : InP (dfold p l) := by
 induction l generalizing p with
 | nil => exact h
 | cons c l ih => exact ih dstep_in
def four (p : Int × Int) : ByteArray := strOfNums [p.2 / 256 % 256, p.2 % 256, p.1 / 256 % 256, p.1 % 256]
def dig (kind : Int) (s : ByteArray) : ByteArray := four (dfold (kind + 1, kind + 1) s.toList)
theorem four_size (p : Int × Int) : (four p).size = 4 := by unfold four; rw [strOfNums_size]; rfl
theorem dig_size (kind : Int) (s : ByteArray) : (dig kind s).size = 4 := four_size _
theorem drop_at (l : List UInt8) (i : Nat) (h : i < l.length) : l.drop i = l.getD i 0 :: l.drop (i + 1) := by
 rw [List.drop_eq_getElem_cons h]; simp [List.getD_eq_getElem?_getD, List.getElem?_eq_getElem h]
theorem step_arith {A B : Int} {c : Nat} (hA : 0 ≤ A ∧ A < 65521 ∧ 0 ≤ B ∧ B < 65521) (hc : c < 256) :
  Int.tmod (wrap64 (A + wrap64 (c : Int))) 65521 = (A + (c : Int)) % 65521 ∧ Int.tmod (wrap64 (B + (A + (c : Int)) % 65521)) 65521 = (B + (A + (c : Int)) % 65521) % 65521 := by
 have h1 : wrap64 (c : Int) = c := w64 (by omega) (by omega)
 have h2 : wrap64 (A + c) = A + c := w64 (by omega) (by omega)
 have h3 : wrap64 (B + (A + (c : Int)) % 65521) = B + (A + (c : Int)) % 65521 := w64 (by omega) (by omega)
 rw [h1, h2, h3, Int.tmod_eq_emod_of_nonneg (by omega), Int.tmod_eq_emod_of_nonneg (by omega)]
 exact ⟨rfl, rfl⟩
theorem feed_spec (s : ByteArray) (hs : s.size ≤ 1000000000000) (L : Int) (hL : 0 ≤ L ∧ L ≤ 1000000000000) : ∀ (d i : Nat) (A B : Int), i + d = s.size → InP (A, B) →
  Ev (fun k => spec_l1Feed.l0 k s (i : Int) A B L) ((dfold (A, B) (s.toList.drop i)).1, (dfold (A, B) (s.toList.drop i)).2, L + s.size) := by
 intro d
 induction d with
 | zero =>
  intro i A B hi hp
  refine Ev.step (f := fun _ => some (A, B, wrap64 (L + (s.size : Int)))) (fun k => ?_) ?_
  ·simp only [spec_l1Feed.l0]; rw [if_neg (by omega)]
  ·rw [List.drop_eq_nil_of_le (by rw [size_toList]; omega)]
   rw [w64 (by omega) (by omega)]
   exact Ev.now _
 | succ d ih =>
  intro i A B hi hp
  have hlt : i < s.size := by omega
  have hb := bt_get s i hlt
  have hc : (s.toList.getD i 0).toNat < 256 := UInt8.toNat_lt _
  have ha := step_arith (A := A) (B := B) hp hc
  refine Ev.step (f := fun k => spec_l1Feed.l0 k s ((i + 1 : Nat) : Int) (dstep (A, B) (s.toList.getD i 0)).1 (dstep (A, B) (s.toList.getD i 0)).2 L) (fun k => ?_) ?_
  ·simp only [spec_l1Feed.l0]; rw [if_pos (by omega), if_pos (by omega), hb, ha.1, ha.2, w64 (x := (i : Int) + 1) (by omega) (by omega)]
   simp only [dstep]
   congr 1
  ·rw [drop_at _ _ (by rw [size_toList]; exact hlt)]
   exact ih (i + 1) _ _ (by omega) dstep_in
theorem feed_impl (s : ByteArray) (hs : s.size ≤ 1000000000000) (L : Int) (hL : 0 ≤ L ∧ L ≤ 1000000000000) : ∀ (d i : Nat) (A B : Int), i + d = s.size → InP (A, B) →
  Ev (fun k => impl_Mix_feed.l0 k s (s.size : Int) (i : Int) A B L) ((dfold (A, B) (s.toList.drop i)).1, (dfold (A, B) (s.toList.drop i)).2, L + s.size) := by
 intro d
 induction d with
 | zero =>
  intro i A B hi hp
  refine Ev.step (f := fun _ => some (A, B, wrap64 (L + (s.size : Int)))) (fun k => ?_) ?_
  ·simp only [impl_Mix_feed.l0]; rw [if_neg (by omega)]
  ·rw [List.drop_eq_nil_of_le (by rw [size_toList]; omega)]
   rw [w64 (by omega) (by omega)]
   exact Ev.now _
 | succ d ih =>
  intro i A B hi hp
  have hlt : i < s.size := by omega
  have hb := bt_get s i hlt
  have hc : (s.toList.getD i 0).toNat < 256 := UInt8.toNat_lt _
  have ha := step_arith (A := A) (B := B) hp hc
  refine Ev.step (f := fun k => impl_Mix_feed.l0 k s (s.size : Int) ((i + 1 : Nat) : Int) (dstep (A, B) (s.toList.getD i 0)).1 (dstep (A, B) (s.toList.getD i 0)).2 L) (fun k => ?_) ?_
  ·simp only [impl_Mix_feed.l0]; rw [if_pos (by omega), if_pos (by omega), if_pos (by omega), hb, ha.1, ha.2, w64 (x := (i : Int) + 1) (by omega) (by omega)]
   simp only [dstep]
   congr 1
  ·rw [drop_at _ _ (by rw [size_toList]; exact hlt)]
   exact ih (i + 1) _ _ (by omega) dstep_in
def Kd_ (c : Int) : Prop := 97 ≤ c ∧ c ≤ 122
theorem digS (kind : Int) (hk : Kd_ kind) (s : ByteArray) (hs : s.size ≤ 1000000000000) : Ev (fun k => spec_l1Digest.f k kind s) (dig kind s) := by
 obtain ⟨h0, h1⟩ := hk
 have e1 : spec_NewMix.f kind = some (kind + 1, kind + 1, 0, true) := by
  unfold spec_NewMix.f spec_l1Kind.f
  rw [if_pos (by omega)]
  simp only [Option.bind_some, decide_eq_true h1, if_true]
  rw [w64 (x := kind) (by omega) (by omega), w64 (by omega) (by omega), Int.add_comm]
 have hp : InP (kind + 1, kind + 1) := by unfold InP; refine ⟨?_, ?_, ?_, ?_⟩ <;> simp only <;> omega
 obtain ⟨K, h⟩ := feed_spec s hs 0 (by omega) s.size 0 (kind + 1) (kind + 1) (by omega) hp
 refine ⟨K, fun k hk => ?_⟩
 have h' := h k hk
 dsimp only at h'
 rw [show ((0 : Nat) : Int) = 0 from rfl] at h'
 unfold spec_l1Digest.f spec_l1Feed.f spec_l1End.f
 simp only [e1, Option.bind_some]
 rw [h']
 simp only [Option.bind_some, List.drop_zero]
 rfl
theorem digI (kind : Int) (hk : Kd_ kind) (s : ByteArray) (hs : s.size ≤ 1000000000000) : Ev (fun k => impl_digest.f k kind s) (dig kind s) := by
 obtain ⟨h0, h1⟩ := hk
 have e1 : impl_newMix.f kind = some (kind + 1, kind + 1, 0) := by
  unfold impl_newMix.f
  rw [w64 (x := kind) (by omega) (by omega), w64 (by omega) (by omega)]
 have hp : InP (kind + 1, kind + 1) := by unfold InP; refine ⟨?_, ?_, ?_, ?_⟩ <;> simp only <;> omega
 obtain ⟨K, h⟩ := feed_impl s hs 0 (by omega) s.size 0 (kind + 1) (kind + 1) (by omega) hp
 refine ⟨K, fun k hk => ?_⟩
 have h' := h k hk
 dsimp only at h'
 rw [show ((0 : Nat) : Int) = 0 from rfl] at h'
 have hq := dfold_in hp s.toList
 unfold impl_digest.f impl_Mix_feed.f impl_Mix_end.f
 simp only [e1, Option.bind_some]
 rw [h']
 simp only [Option.bind_some, List.drop_zero]
 unfold dig four
 generalize dfold (kind + 1, kind + 1) s.toList = p at hq ⊢
 obtain ⟨q0, q1, q2, q3⟩ := hq
 rw [Int.tdiv_eq_ediv_of_nonneg q2, Int.tdiv_eq_ediv_of_nonneg q0, Int.tmod_eq_emod_of_nonneg q2, Int.tmod_eq_emod_of_nonneg q0, w64 (x := p.2 / 256) (by omega) (by omega), w64 (x := p.1 / 256) (by omega) (by omega)]
 rw [Int.emod_emod_of_dvd p.2 (Int.dvd_refl _), Int.emod_emod_of_dvd p.1 (Int.dvd_refl _)]
def one (n : Int) : ByteArray := strOfNums [n % 256]
theorem one_size (n : Int) : (one n).size = 1 := by unfold one; rw [strOfNums_size]; rfl
end Go.Proofs.Ytnplghcbdaiogaa.PD
end
section
namespace Go.Proofs.Ytnplghcbdaiogaa.PK
open Go.RowKit Go.Proofs.YtnplghcbdaiogaaW.PrintWords Go.Proofs.YtnplghcbdaiogaaW.PrintLast Go.Proofs.YtnplghcbdaiogaaW.PrintMore Go.Proofs.Ytnplghcbdaiogaa.PB Go.Proofs.Ytnplghcbdaiogaa.PD Go.Proofs.Ytnplghcbdaiogaa.PA
set_option linter.unusedVariables false
theorem app_size (a b : ByteArray) : (a ++ b).size = a.size + b.size := ByteArray.size_append
end Go.Proofs.Ytnplghcbdaiogaa.PK
end
section
namespace Go.Proofs.Ytnplghcbdaiogaa.PL
open Go.RowKit Go.Proofs.YtnplghcbdaiogaaW.PrintWords Go.Proofs.YtnplghcbdaiogaaW.PrintLast Go.Proofs.YtnplghcbdaiogaaW.PrintMore Go.Proofs.Ytnplghcbdaiogaa.PB Go.Proofs.Ytnplghcbdaiogaa.PA
set_option linter.unusedVariables false
theorem rdOf_at {α : Type} (d : α) (l : List α) (i : Nat) (h : i < l.length) : rdOf d l (i : Int) = l[i] := by
 simp [rdOf, List.getD_eq_getElem?_getD, List.getElem?_eq_getElem h]
def filled {α β : Type} (f : α → β) (z : β) (l : List α) (i : Nat) : List β := (l.take i).map f ++ List.replicate (l.length - i) z
theorem filled_length {α β : Type} (f : α → β) (z : β) (l : List α) (i : Nat) (h : i ≤ l.length) : (filled f z l i).length = l.length := by
 simp [filled, Nat.min_eq_left h]; omega
theorem filled_zero {α β : Type} (f : α → β) (z : β) (l : List α) : filled f z l 0 = List.replicate l.length z := by simp [filled]
theorem filled_all {α β : Type} (f : α → β) (z : β) (l : List α) : filled f z l l.length = l.map f := by simp [filled]
theorem filled_set {α β : Type} (f : α → β) (z : β) (l : List α) (i : Nat) (h : i < l.length) : (filled f z l i).set i (f l[i]) = filled f z l (i + 1) := by
 unfold filled
 rw [List.take_succ_eq_append_getElem h, List.map_append, List.map_cons, List.map_nil]
 have hl : ((l.take i).map f).length = i := by simp [Nat.min_eq_left (Nat.le_of_lt h)]
 obtain ⟨m, hm⟩ : ∃ m, l.length - i = m + 1 := ⟨l.length - i - 1, by omega⟩
 rw [hm, List.replicate_succ, List.set_append_right _ _ (by omega), hl, Nat.sub_self, List.set_cons_zero, show l.length - (i + 1) = m by omega]
 simp
theorem toS (l : List ByteArray) (hl : l.length ≤ 2000000) : Ev (fun k => laws_toStringS.f k l) l := by
 have key : ∀ (d i : Nat), i + d = l.length → Ev (fun k => laws_toStringS.l0 k l (filled (fun x => x) ⟨#[]⟩ l i) (i : Int)) l := by
  intro d
  induction d with
  | zero =>
   intro i hi
   have hi' : i = l.length := by omega
   subst hi'
   refine Ev.step (f := fun _ => some l) (fun k => ?_) (Ev.now _)
   simp only [laws_toStringS.l0]
   rw [if_neg (by omega), filled_all]
   simp
  | succ d ih =>
   intro i hi
   have hlt : i < l.length := by omega
   refine Ev.step (f := fun k => laws_toStringS.l0 k l (filled (fun x => x) ⟨#[]⟩ l (i + 1)) ((i + 1 : Nat) : Int)) (fun k => ?_) (ih (i + 1) (by omega))
   simp only [laws_toStringS.l0]
   rw [if_pos (by omega), if_pos (by omega), if_pos (by rw [filled_length _ _ _ _ (by omega)]; omega), rdOf_at _ _ _ hlt, w64 (x := (i : Int) + 1) (by omega) (by omega)]
   rw [show ((i : Int)).toNat = i from by omega, filled_set (fun x => x) _ l i hlt]
   rfl
 refine Ev.congr (f := fun k => laws_toStringS.l0 k l (filled (fun x => x) ⟨#[]⟩ l 0) ((0 : Nat) : Int)) (fun k => ?_) (key l.length 0 (by omega))
 simp only [laws_toStringS.f]
 rw [if_pos (by omega), if_pos (by omega), filled_zero]
 rfl
theorem eqS_yes (l : List ByteArray) (hl : l.length ≤ 2000000) : Ev (fun k => laws_eqStringS.f k l l) true := by
 have key : ∀ (d i : Nat), i + d = l.length → Ev (fun k => laws_eqStringS.l0 k l l (i : Int)) true := by
  intro d
  induction d with
  | zero =>
   intro i hi
   refine Ev.step (f := fun _ => some true) (fun k => ?_) (Ev.now _)
   simp only [laws_eqStringS.l0]
   rw [if_neg (by omega)]
  | succ d ih =>
   intro i hi
   refine Ev.step (f := fun k => laws_eqStringS.l0 k l l ((i + 1 : Nat) : Int)) (fun k => ?_) (ih (i + 1) (by omega))
   simp only [laws_eqStringS.l0]
   rw [if_pos (by omega), if_pos (by omega), if_pos (by omega), if_pos trivial, w64 (x := (i : Int) + 1) (by omega) (by omega)]
   rfl
 refine Ev.congr (f := fun k => laws_eqStringS.l0 k l l ((0 : Nat) : Int)) (fun k => ?_) (key l.length 0 (by omega))
 simp only [laws_eqStringS.f]
 rw [if_pos trivial]
 rfl
def szL : List ByteArray → Nat
 | [] => 0
 | s :: l => s.size + szL l
def total (l : List ByteArray) : Nat := l.length + szL l
def Fit (l : List ByteArray) : Prop := l.length ≤ 9223372036854775807 ∧ ∀ s ∈ l, s.size ≤ 9223372036854775807
theorem szS_loop (l : List ByteArray) (hf : Fit l) : ∀ (d i : Nat) (R : Int), i + d = l.length → 0 ≤ R → R ≤ 1000000000000 → l.length ≤ 1000000000000 →
  Ev (fun k => laws_szStringS.l0 k l R (i : Int)) (if (szL (l.drop i) : Int) ≤ R then R - szL (l.drop i) else -1) := by
 intro d
 induction d with
 | zero =>
  intro i R hi h0 h1 h2
  rw [List.drop_eq_nil_of_le (by omega)]
  refine Ev.step (f := fun _ => some R) (fun k => ?_) ?_
  ·simp only [laws_szStringS.l0]
   rw [if_neg (by omega)]
  ·rw [show szL [] = 0 from rfl, if_pos (by omega)]
   exact ev_eq (Ev.now R) (by omega)
 | succ d ih =>
  intro i R hi h0 h1 h2
  have hlt : i < l.length := by omega
  have hs := hf.2 _ (List.getElem_mem hlt)
  rw [List.drop_eq_getElem_cons hlt, show szL (l[i] :: l.drop (i + 1)) = l[i].size + szL (l.drop (i + 1)) from rfl]
  by_cases hc : (l[i].size : Int) ≤ R
  ·refine Ev.step (f := fun k => laws_szStringS.l0 k l (R - l[i].size) ((i + 1 : Nat) : Int)) (fun k => ?_) ?_
   ·simp only [laws_szStringS.l0]
    rw [if_pos (by omega), if_pos (by omega), rdOf_at _ _ _ hlt, w64 (x := R - (l[i].size : Int)) (by omega) (by omega), if_neg (by omega), w64 (x := (i : Int) + 1) (by omega) (by omega)]
    rfl
   ·refine ev_eq (ih (i + 1) (R - l[i].size) (by omega) (by omega) (by omega) h2) ?_
    by_cases hd : (szL (l.drop (i + 1)) : Int) ≤ R - l[i].size
    ·rw [if_pos hd, if_pos (by omega)]; omega
    ·rw [if_neg hd, if_neg (by omega)]
  ·refine Ev.step (f := fun _ => some (-1)) (fun k => ?_) ?_
   ·simp only [laws_szStringS.l0]
    rw [if_pos (by omega), if_pos (by omega), rdOf_at _ _ _ hlt, w64 (x := R - (l[i].size : Int)) (by omega) (by omega), if_pos (by omega)]
   ·rw [if_neg (by omega)]
    exact Ev.now _
theorem szS (l : List ByteArray) (hf : Fit l) (R : Int) (h0 : 0 ≤ R) (h1 : R ≤ 1000000000) : Ev (fun k => laws_szStringS.f k l R) (if (total l : Int) ≤ R then R - total l else -1) := by
 have hl := hf.1
 by_cases hc : (l.length : Int) ≤ R
 ·refine Ev.congr (f := fun k => laws_szStringS.l0 k l (R - l.length) ((0 : Nat) : Int)) (fun k => ?_) ?_
  ·simp only [laws_szStringS.f]
   rw [w64 (x := R - (l.length : Int)) (by omega) (by omega), if_neg (by omega)]
   rfl
  ·refine ev_eq (szS_loop l hf l.length 0 (R - l.length) (by omega) (by omega) (by omega) (by omega)) ?_
   rw [List.drop_zero]
   unfold total
   by_cases hd : (szL l : Int) ≤ R - l.length
   ·rw [if_pos hd, if_pos (by omega)]; omega
   ·rw [if_neg hd, if_neg (by omega)]
 ·refine Ev.congr (f := fun _ => some (-1)) (fun k => ?_) ?_
  ·simp only [laws_szStringS.f]
   rw [w64 (x := R - (l.length : Int)) (by omega) (by omega), if_pos (by omega)]
  ·unfold total
   rw [if_neg (by omega)]
   exact Ev.now _
theorem mark_go : ∀ (m n : Nat) (out : ByteArray), n < 10 ^ m → out.size + m ≤ 1000 → n ≤ 1000000000000000000 → ∃ t, Ev (fun k => laws_markText.l0 k (n : Int) out) t := by
 intro m
 induction m with
 | zero =>
  intro n out hn ho _
  have : n = 0 := by simpa using hn
  subst this
  refine ⟨(⟨#[109]⟩ : ByteArray) ++ out, Ev.step (f := fun _ => some ((⟨#[109]⟩ : ByteArray) ++ out)) (fun k => ?_) (Ev.now _)⟩
  simp only [laws_markText.l0]
  rw [if_neg (by omega), if_pos (by omega)]
 | succ m ih =>
  intro n out hn ho hb
  by_cases h0 : n = 0
  ·subst h0
   refine ⟨(⟨#[109]⟩ : ByteArray) ++ out, Ev.step (f := fun _ => some ((⟨#[109]⟩ : ByteArray) ++ out)) (fun k => ?_) (Ev.now _)⟩
   simp only [laws_markText.l0]
   rw [if_neg (by omega), if_pos (by omega)]
  ·have hs : ∀ x : Int, (strOfNums [x]).size = 1 := fun x => by rw [strOfNums_size]; rfl
   obtain ⟨t, ht⟩ := ih (n / 10) (strOfNums [(wrap64 (48 + (Int.tmod (n : Int) 10))) % 256] ++ out) (by rw [Nat.pow_succ] at hn; omega) (by rw [ByteArray.size_append, hs]; omega) (by omega)
   refine ⟨t, Ev.step (f := fun k => laws_markText.l0 k ((n / 10 : Nat) : Int) (strOfNums [(wrap64 (48 + (Int.tmod (n : Int) 10))) % 256] ++ out)) (fun k => ?_) ht⟩
   simp only [laws_markText.l0]
   rw [if_pos (by omega)]
   simp only [Option.bind_some]
   rw [if_pos (by rw [hs]; omega), Int.tdiv_eq_ediv_of_nonneg (by omega), w64 (x := (n : Int) / 10) (by omega) (by omega)]
   rfl
theorem mark_any (n : Nat) (hn : n ≤ 1000000000000000000) : ∃ t, Ev (fun k => laws_markText.f k (n : Int)) t := by
 by_cases h0 : n = 0
 ·subst h0
  exact ⟨_, Ev.congr (f := fun _ => some (⟨#[109, 48]⟩ : ByteArray)) (fun k => by simp [laws_markText.f]) (Ev.now _)⟩
 ·obtain ⟨t, ht⟩ := mark_go 19 n ⟨#[]⟩ (by omega) (by simp [ByteArray.size]) hn
  exact ⟨t, Ev.congr (fun k => by simp only [laws_markText.f]; rw [if_neg (by omega)]) ht⟩
noncomputable def mk_ (n : Nat) : ByteArray := if h : n ≤ 1000000000000000000 then Classical.choose (mark_any n h) else ⟨#[]⟩
theorem markT (n : Nat) (hn : n ≤ 1000000000000000000) : Ev (fun k => laws_markText.f k (n : Int)) (mk_ n) := by
 unfold mk_
 rw [dif_pos hn]
 exact Classical.choose_spec (mark_any n hn)
noncomputable def marks (a n : Nat) : List ByteArray := (List.range n).map fun i => mk_ (a + i)
theorem marks_length (a n : Nat) : (marks a n).length = n := by simp [marks]
theorem marks_at (a n i : Nat) (h : i < n) : (marks a n)[i]'(by rw [marks_length]; exact h) = mk_ (a + i) := by simp [marks]
theorem markS_loop (l : List ByteArray) (a : Nat) (hl : l.length ≤ 1000000000) (ha : a ≤ 1000000000) : ∀ (d i : Nat), i + d = l.length → Ev (fun k => laws_markStringS.l0 k ((marks a i) ++ l.drop i) ((a + i : Nat) : Int) (i : Int)) (((a + l.length : Nat) : Int), marks a l.length) := by
 intro d
 induction d with
 | zero =>
  intro i hi
  have hi' : i = l.length := by omega
  subst hi'
  refine Ev.step (f := fun _ => some (((a + l.length : Nat) : Int), marks a l.length)) (fun k => ?_) (Ev.now _)
  simp only [laws_markStringS.l0]
  rw [if_neg (by simp [marks_length]), List.drop_length, List.append_nil]
 | succ d ih =>
  intro i hi
  have hlt : i < l.length := by omega
  refine Ev.step (f := fun k => (laws_markText.f k ((a + i : Nat) : Int)).bind fun t => laws_markStringS.l0 k (((marks a i) ++ l.drop i).set i t) ((a + (i + 1) : Nat) : Int) ((i + 1 : Nat) : Int)) (fun k => ?_) ?_
  ·simp only [laws_markStringS.l0]
   rw [if_pos (by simp only [List.length_append, marks_length, List.length_drop]; omega)]
   congr 1
   funext t
   rw [if_pos (by omega), w64 (x := ((a + i : Nat) : Int) + 1) (by omega) (by omega), w64 (x := (i : Int) + 1) (by omega) (by omega)]
   rfl
  ·refine ev_bind (markT (a + i) (by omega)) ?_
   have hset : ((marks a i) ++ l.drop i).set i (mk_ (a + i)) = marks a (i + 1) ++ l.drop (i + 1) := by
    rw [List.set_append_right _ _ (by rw [marks_length]; omega), marks_length, Nat.sub_self, List.drop_eq_getElem_cons hlt, List.set_cons_zero]
    simp [marks, List.range_succ]
   rw [hset]
   exact ih (i + 1) (by omega)
theorem markS (l : List ByteArray) (a : Nat) (hl : l.length ≤ 1000000000) (ha : a ≤ 1000000000) : Ev (fun k => laws_markStringS.f k l (a : Int)) (((a + l.length : Nat) : Int), marks a l.length) := by
 have := markS_loop l a hl ha l.length 0 (by omega)
 simp only [List.drop_zero, marks, List.range_zero, List.map_nil, List.nil_append, Nat.add_zero] at this
 exact this
theorem heldS (n a : Nat) (hl : n ≤ 1000000000) (ha : a ≤ 1000000000) : Ev (fun k => laws_heldStringS.f k (marks a n) (a : Int)) ((a + n : Nat) : Int) := by
 have key : ∀ (d i : Nat), i + d = n → Ev (fun k => laws_heldStringS.l0 k (marks a n) ((a + i : Nat) : Int) (i : Int)) ((a + n : Nat) : Int) := by
  intro d
  induction d with
  | zero =>
   intro i hi
   refine Ev.step (f := fun _ => some ((a + n : Nat) : Int)) (fun k => ?_) (Ev.now _)
   simp only [laws_heldStringS.l0]
   rw [if_neg (by rw [marks_length]; omega), show i = n by omega]
  | succ d ih =>
   intro i hi
   have hlt : i < (marks a n).length := by rw [marks_length]; omega
   refine Ev.step (f := fun k => (laws_markText.f k ((a + i : Nat) : Int)).bind fun t => if (mk_ (a + i)).toList = t.toList then laws_heldStringS.l0 k (marks a n) ((a + (i + 1) : Nat) : Int) ((i + 1 : Nat) : Int) else some (-1)) (fun k => ?_) ?_
   ·simp only [laws_heldStringS.l0]
    rw [if_pos (by rw [marks_length]; omega), if_pos (by omega), rdOf_at _ _ _ hlt, marks_at _ _ _ (by omega), w64 (x := ((a + i : Nat) : Int) + 1) (by omega) (by omega), w64 (x := (i : Int) + 1) (by omega) (by omega)]
    rfl
   ·exact ev_bind (markT (a + i) (by omega)) (ev_pos rfl (ih (i + 1) (by omega)))
 exact key n 0 (by omega)
end Go.Proofs.Ytnplghcbdaiogaa.PL
end
section
namespace Go.Proofs.Ytnplghcbdaiogaa.PS
open Go.RowKit Go.Proofs.YtnplghcbdaiogaaW.PrintWords Go.Proofs.YtnplghcbdaiogaaW.PrintLast Go.Proofs.YtnplghcbdaiogaaW.PrintMore Go.Proofs.Ytnplghcbdaiogaa.PB Go.Proofs.Ytnplghcbdaiogaa.PD Go.Proofs.Ytnplghcbdaiogaa.PK Go.Proofs.Ytnplghcbdaiogaa.PL Go.Proofs.Ytnplghcbdaiogaa.PA
set_option linter.unusedVariables false
theorem kk : Kd_ 107 := ⟨by decide, by decide⟩
end Go.Proofs.Ytnplghcbdaiogaa.PS
end
section
namespace Go.Proofs.Ytnplghcbdaiogaa.PT
open Go.RowKit Go.Proofs.YtnplghcbdaiogaaW.PrintWords Go.Proofs.YtnplghcbdaiogaaW.PrintLast Go.Proofs.YtnplghcbdaiogaaW.PrintMore Go.Proofs.Ytnplghcbdaiogaa.PB Go.Proofs.Ytnplghcbdaiogaa.PD Go.Proofs.Ytnplghcbdaiogaa.PK Go.Proofs.Ytnplghcbdaiogaa.PL Go.Proofs.Ytnplghcbdaiogaa.PS Go.Proofs.Ytnplghcbdaiogaa.PA
set_option linter.unusedVariables false
theorem inI (a b c : Int) : impl_within.f a b c = some (decide (b ≤ a ∧ a ≤ c)) := by
 unfold impl_within.f
 by_cases h : a ≥ b
 ·rw [if_pos h]; simp [show b ≤ a from h]
 ·rw [if_neg h]; simp [show ¬ b ≤ a from h]
end Go.Proofs.Ytnplghcbdaiogaa.PT
end
section
namespace Go.Proofs.Ytnplghcbdaiogaa.PU
open Go.RowKit Go.Proofs.YtnplghcbdaiogaaW.PrintWords Go.Proofs.YtnplghcbdaiogaaW.PrintLast Go.Proofs.YtnplghcbdaiogaaW.PrintMore Go.Proofs.Ytnplghcbdaiogaa.PB Go.Proofs.Ytnplghcbdaiogaa.PD Go.Proofs.Ytnplghcbdaiogaa.PK Go.Proofs.Ytnplghcbdaiogaa.PL Go.Proofs.Ytnplghcbdaiogaa.PS Go.Proofs.Ytnplghcbdaiogaa.PT Go.Proofs.Ytnplghcbdaiogaa.PA
set_option linter.unusedVariables false
theorem idx_any {α : Type} (l : List α) (rf : List α → Int → α) (hrf : ∀ i (h : i < l.length), rf l (i : Int) = l[i]) (L0 : Nat → List α → Int → Int → Option Int) (cl : Nat → α → Option Bool) (p : α → Bool)
  (hstep : ∀ k n i, L0 (k + 1) l n i = if i < n then (if 0 ≤ i then (if i < (l.length : Int) then ((cl k (rf l i)).bind fun t => if t = true then some i else L0 k l n (wrap64 (i + 1))) else none) else none) else some (-1))
  (hp : ∀ x ∈ l, Ev (fun k => cl k x) (p x)) (hl : l.length ≤ 4000000000000000000) : ∃ r, Ev (fun k => L0 k l (l.length : Int) 0) r ∧ decide (r ≥ 0) = l.any p := by
 have key : ∀ (d i : Nat), i + d = l.length → ∃ r, Ev (fun k => L0 k l (l.length : Int) (i : Int)) r ∧ decide (r ≥ 0) = (l.drop i).any p := by
  intro d
  induction d with
  | zero =>
   intro i hi
   refine ⟨-1, Ev.step (f := fun _ => some (-1)) (fun k => ?_) (Ev.now _), ?_⟩
   ·rw [hstep, if_neg (by omega)]
   ·rw [List.drop_eq_nil_of_le (by omega)]; rfl
  | succ d ih =>
   intro i hi
   have hlt : i < l.length := by omega
   have hpx := hp _ (List.getElem_mem hlt)
   rw [List.drop_eq_getElem_cons hlt, List.any_cons]
   have st : ∀ k, L0 (k + 1) l (l.length : Int) (i : Int) = (cl k l[i]).bind fun t => if t = true then some (i : Int) else L0 k l (l.length : Int) ((i + 1 : Nat) : Int) := by
    intro k
    rw [hstep, if_pos (by omega), if_pos (by omega), if_pos (by omega), hrf i hlt, w64 (x := (i : Int) + 1) (by omega) (by omega)]
    rfl
   cases hb : p l[i] with
   | true =>
    rw [hb] at hpx
    refine ⟨(i : Int), Ev.step (f := fun k => (cl k l[i]).bind fun t => if t = true then some (i : Int) else L0 k l (l.length : Int) ((i + 1 : Nat) : Int)) st (ev_bind hpx (ev_pos rfl (Ev.now _))), ?_⟩
    simp only [Bool.true_or]
    exact decide_eq_true (by omega)
   | false =>
    rw [hb] at hpx
    obtain ⟨r, hr, e⟩ := ih (i + 1) (by omega)
    refine ⟨r, Ev.step (f := fun k => (cl k l[i]).bind fun t => if t = true then some (i : Int) else L0 k l (l.length : Int) ((i + 1 : Nat) : Int)) st (ev_bind hpx (ev_neg (by simp) hr)), ?_⟩
    rw [Bool.false_or]; exact e
 obtain ⟨r, hr, e⟩ := key l.length 0 (by omega)
 exact ⟨r, hr, by rw [e, List.drop_zero]⟩
def all4 (l : List ByteArray) : Bool := l.all fun s => decide (s.size = 4)
end Go.Proofs.Ytnplghcbdaiogaa.PU
end
section
namespace Go.Proofs.Ytnplghcbdaiogaa.PG
open Go.RowKit Go.Proofs.YtnplghcbdaiogaaW.PrintWords Go.Proofs.YtnplghcbdaiogaaW.PrintLast Go.Proofs.YtnplghcbdaiogaaW.PrintMore Go.Proofs.Ytnplghcbdaiogaa.PB Go.Proofs.Ytnplghcbdaiogaa.PL
set_option linter.unusedVariables false
theorem loop_up {β : Type} {r : β} (n : Nat) (S : Nat → Nat → Option β) (hend : Ev (S n) r) (hround : ∀ i, i < n → Ev (S (i + 1)) r → Ev (S i) r) : Ev (S 0) r := by
 have key : ∀ d i, i + d = n → Ev (S i) r := by
  intro d
  induction d with
  | zero => intro i hi; rw [show i = n by omega]; exact hend
  | succ d ih => intro i hi; exact hround i (by omega) (ih (i + 1) (by omega))
 exact key n 0 (by omega)
def wsum {α : Type} (wt : α → Nat) : List α → Nat
 | [] => 0
 | x :: l => wt x + wsum wt l
theorem wsum_mem {α : Type} (wt : α → Nat) (l : List α) : ∀ x ∈ l, wt x ≤ wsum wt l := by
 induction l with
 | nil => intro s h; cases h
 | cons a l ih =>
  intro s h
  simp only [wsum]
  rcases List.mem_cons.mp h with rfl | h
  ·omega
  ·have := ih s h; omega
def left (R : Int) (w : Nat) : Int := if (w : Int) ≤ R then R - w else -1
theorem left_yes {R : Int} {w : Nat} (h : (w : Int) ≤ R) : left R w = R - w := if_pos h
theorem left_no {R : Int} {w : Nat} (h : ¬ (w : Int) ≤ R) : left R w = -1 := if_neg h
theorem left_add {R : Int} {a b : Nat} (h : (a : Int) ≤ R) : left (R - a) b = left R (a + b) := by
 unfold left
 by_cases hb : (b : Int) ≤ R - a
 ·rw [if_pos hb, if_pos (by omega)]; omega
 ·rw [if_neg hb, if_neg (by omega)]
theorem to_list {α β : Type} (f : α → β) (z : β) (l : List α) (L0 : Nat → List α → List β → Int → Option (List β)) (hl : l.length ≤ 2000000)
  (hend : ∀ k out, L0 (k + 1) l out (l.length : Int) = some out)
  (hround : ∀ i (h : i < l.length) (out : List β), out.length = l.length → ∀ r, Ev (fun k => L0 k l (out.set i (f l[i])) ((i + 1 : Nat) : Int)) r → Ev (fun k => L0 k l out (i : Int)) r) :
  Ev (fun k => L0 k l (List.replicate l.length z) 0) (l.map f) := by
 have h := loop_up (r := l.map f) l.length (fun i k => L0 k l (filled f z l i) (i : Int)) ?_ ?_
 ·rw [← filled_zero f z l]; exact h
 ·refine Ev.step (f := fun _ => some (l.map f)) (fun k => ?_) (Ev.now _)
  rw [hend, filled_all]
 ·intro i hi h
  refine hround i hi _ (filled_length _ _ _ _ (by omega)) _ ?_
  rw [filled_set f z l i hi]
  exact h
theorem eq_list {α : Type} (l : List α) (L0 : Nat → List α → List α → Int → Option Bool) (F : Nat → List α → List α → Option Bool) (hend : ∀ k, L0 (k + 1) l l (l.length : Int) = some true)
  (hF : ∀ k, F k l l = L0 k l l 0) (hround : ∀ i (h : i < l.length), Ev (fun k => L0 k l l ((i + 1 : Nat) : Int)) true → Ev (fun k => L0 k l l (i : Int)) true) : Ev (fun k => F k l l) true := by
 refine Ev.congr (f := fun k => L0 k l l ((0 : Nat) : Int)) (fun k => hF k) ?_
 exact loop_up l.length (fun i k => L0 k l l (i : Int)) (Ev.step (f := fun _ => some true) (fun k => hend k) (Ev.now _)) (fun i hi h => hround i hi h)
end Go.Proofs.Ytnplghcbdaiogaa.PG
end
section
namespace Go.Proofs.Ytnplghcbdaiogaa.PQ

end Go.Proofs.Ytnplghcbdaiogaa.PQ
end
section
namespace Go.Proofs.Ytnplghcbdaiogaa.PV

end Go.Proofs.Ytnplghcbdaiogaa.PV
end
section
namespace Go.Proofs.Ytnplghcbdaiogaa.PW
open Go.RowKit Go.Proofs.YtnplghcbdaiogaaW.PrintWords Go.Proofs.YtnplghcbdaiogaaW.PrintLast Go.Proofs.YtnplghcbdaiogaaW.PrintMore Go.Proofs.Ytnplghcbdaiogaa.PB Go.Proofs.Ytnplghcbdaiogaa.PD Go.Proofs.Ytnplghcbdaiogaa.PK Go.Proofs.Ytnplghcbdaiogaa.PL Go.Proofs.Ytnplghcbdaiogaa.PS Go.Proofs.Ytnplghcbdaiogaa.PT Go.Proofs.Ytnplghcbdaiogaa.PU Go.Proofs.Ytnplghcbdaiogaa.PG Go.Proofs.Ytnplghcbdaiogaa.PQ Go.Proofs.Ytnplghcbdaiogaa.PV Go.Proofs.Ytnplghcbdaiogaa.PA
set_option linter.unusedVariables false
noncomputable def ch (P : Prop) : Bool := @decide P (Classical.propDecidable P)
theorem ch_yes {P : Prop} (h : P) : ch P = true := @decide_eq_true P (Classical.propDecidable P) h
theorem ch_no {P : Prop} (h : ¬ P) : ch P = false := @decide_eq_false P (Classical.propDecidable P) h
theorem loop_yes {β : Type} (n : Nat) (S : Nat → Nat → Option β) (Q : Nat → Prop) (b : β) (hround : ∀ r i, i < n → Q i → Ev (S (i + 1)) r → Ev (S i) r) (hend : Ev (S n) b) (hq : ∀ i, i < n → Q i) : Ev (S 0) b :=
 loop_up n S hend (fun i hi h => hround b i hi (hq i hi) h)
theorem loop_no {β : Type} (n : Nat) (S : Nat → Nat → Option β) (Q : Nat → Prop) (no : β) (hround : ∀ r i, i < n → Q i → Ev (S (i + 1)) r → Ev (S i) r) (hno : ∀ i, i < n → ¬ Q i → Ev (S i) no) (hq : ¬ ∀ i, i < n → Q i) : Ev (S 0) no := by
 refine Classical.byContradiction fun hc => hq ?_
 have key : ∀ i, i ≤ n → (¬ Ev (S i) no) ∧ ∀ j, j < i → Q j := by
  intro i
  induction i with
  | zero => intro _; exact ⟨hc, fun j hj => absurd hj (Nat.not_lt_zero j)⟩
  | succ i ih =>
   intro hi
   obtain ⟨h1, h2⟩ := ih (by omega)
   have hQ : Q i := Classical.byContradiction fun h => h1 (hno i (by omega) h)
   refine ⟨fun h => h1 (hround no i (by omega) hQ h), fun j hj => ?_⟩
   by_cases e : j = i
   ·subst e; exact hQ
   ·exact h2 j (by omega)
 exact (key n (Nat.le_refl n)).2
theorem has_str (l : List ByteArray) (L0 : Nat → List ByteArray → Int → Int → Option Int) (cl : Nat → ByteArray → Option Bool) (p : ByteArray → Bool)
  (hstep : ∀ k n i, L0 (k + 1) l n i = if i < n then (if 0 ≤ i then (if i < (l.length : Int) then ((cl k (rdOf ByteArray.empty l i)).bind fun t => if t = true then some i else L0 k l n (wrap64 (i + 1))) else none) else none) else some (-1))
  (hp : ∀ x ∈ l, Ev (fun k => cl k x) (p x)) (hl : l.length ≤ 4000000000000000000) : Ev (fun k => (L0 k l (l.length : Int) 0).bind fun t => some (decide (t ≥ 0))) (l.any p) := by
 obtain ⟨r, hr, e⟩ := idx_any l (fun l i => rdOf ByteArray.empty l i) (fun i h => rdOf_at _ l i h) L0 cl p hstep hp hl
 rw [← e]
 exact ev_bind (f := fun _ t => some (decide (t ≥ 0))) hr (Ev.now _)
theorem not_any {α : Type} (p : α → Bool) : ∀ l : List α, (l.any fun s => !p s) = !(l.all p) := by
 intro l
 induction l with
 | nil => rfl
 | cons x l ih => simp only [List.any_cons, List.all_cons, Bool.not_and, ih]
theorem all_at (l : List ByteArray) (p : ByteArray → Bool) : l.all p = true ↔ ∀ i, i < l.length → p (rdOf ByteArray.empty l (i : Int)) = true := by
 rw [List.all_eq_true]
 constructor
 ·intro h i hi
  rw [rdOf_at _ _ _ hi]
  exact h _ (List.getElem_mem hi)
 ·intro h x hx
  obtain ⟨i, hi, e⟩ := List.getElem_of_mem hx
  have := h i hi
  rw [rdOf_at _ _ _ hi, e] at this
  exact this
def keyB (s : ByteArray) : Bool := decide (1 ≤ (s.size : Int) ∧ (s.size : Int) ≤ 12)
def valB (s : ByteArray) : Bool := decide ((s.size : Int) ≤ 12)
theorem keyI (s : ByteArray) : impl_isKey.f s = some (keyB s) := by
 unfold impl_isKey.f; rw [inI]; rfl
theorem empty_iff (a : ByteArray) : a.toList = ([] : List UInt8) ↔ a.size = 0 := by
 rw [← size_toList]
 constructor
 ·intro h; rw [h]; rfl
 ·intro h; exact List.length_eq_zero_iff.mp h
theorem pairS (a b : ByteArray) : spec_l5Pair.f a b = some (keyB a && valB b) := by
 unfold spec_l5Pair.f spec_l5Text.f keyB valB
 simp only [Option.bind_some]
 by_cases h1 : (a.size : Int) ≤ 12
 ·rw [if_pos (decide_eq_true h1)]
  by_cases h2 : (b.size : Int) ≤ 12
  ·rw [if_pos (decide_eq_true h2), decide_eq_true h2, Bool.and_true]
   by_cases h3 : a.size = 0
   ·rw [(empty_iff a).2 h3, decide_eq_false (by omega)]; rfl
   ·have : a.toList ≠ [] := fun h => h3 ((empty_iff a).1 h)
    rw [decide_eq_true ⟨by omega, h1⟩]
    exact congrArg some (by simp [this])
  ·rw [if_neg (by simp [h2]), decide_eq_false h2, Bool.and_false]
 ·rw [if_neg (by simp [h1]), decide_eq_false (fun h => h1 h.2)]; rfl
abbrev tx (l : List ByteArray) (i : Nat) : ByteArray := rdOf ByteArray.empty l (i : Int)
def risesAt (K : List ByteArray) (i : Nat) : Prop := 0 < i → Op.bytesLess (tx K (i - 1)).toList (tx K i).toList = true
def pageOk (K V C : List ByteArray) (g : Int) : Prop := K.length ≤ 4 ∧ V.length = K.length ∧ (∀ i, i < K.length → keyB (tx K i) = true ∧ risesAt K i) ∧ V.all valB = true ∧ (C.length = 0 ∨ C.length = K.length + 1) ∧ all4 C = true ∧ (0 ≤ g ∧ g ≤ (K.length : Int))
theorem risingI (K : List ByteArray) (hK : K.length ≤ 2000000) : Ev (fun k => impl_areRising.f k K) (ch (∀ i, i < K.length → keyB (tx K i) = true ∧ risesAt K i)) := by
 have round : ∀ (r : Bool) i, i < K.length → (keyB (tx K i) = true ∧ risesAt K i) → Ev (fun k => impl_areRising.l0 k K K (K.length : Int) ((i + 1 : Nat) : Int)) r → Ev (fun k => impl_areRising.l0 k K K (K.length : Int) (i : Int)) r := by
  intro r i hi hq h
  refine Ev.step (f := fun k => impl_areRising.l0 k K K (K.length : Int) ((i + 1 : Nat) : Int)) (fun k => ?_) h
  simp only [impl_areRising.l0]
  rw [if_pos (by omega), if_pos (by omega), if_pos (by omega), keyI, w64 (x := (i : Int) + 1) (by omega) (by omega)]
  simp only [Option.bind_some]
  rw [if_pos hq.1]
  by_cases h0 : 0 < i
  ·rw [if_pos (by omega), w64 (x := (i : Int) - 1) (by omega) (by omega), if_pos (by omega), if_pos (by omega), show (i : Int) - 1 = ((i - 1 : Nat) : Int) by omega, if_pos (hq.2 h0)]; rfl
  ·rw [if_neg (by omega)]; rfl
 have stop : ∀ i, i < K.length → ¬ (keyB (tx K i) = true ∧ risesAt K i) → Ev (fun k => impl_areRising.l0 k K K (K.length : Int) (i : Int)) false := by
  intro i hi hq
  refine Ev.step (f := fun _ => some false) (fun k => ?_) (Ev.now _)
  simp only [impl_areRising.l0]
  rw [if_pos (by omega), if_pos (by omega), if_pos (by omega), keyI]
  simp only [Option.bind_some]
  by_cases hk : keyB (tx K i) = true
  ·rw [if_pos hk]
   have h0 : 0 < i := Classical.byContradiction fun h => hq ⟨hk, fun h' => absurd h' h⟩
   rw [if_pos (by omega), w64 (x := (i : Int) - 1) (by omega) (by omega), if_pos (by omega), if_pos (by omega), show (i : Int) - 1 = ((i - 1 : Nat) : Int) by omega, if_neg (fun h => hq ⟨hk, fun _ => h⟩)]
  ·rw [if_neg hk]
 by_cases h : ∀ i, i < K.length → keyB (tx K i) = true ∧ risesAt K i
 ·rw [ch_yes h]
  exact loop_yes K.length (fun i k => impl_areRising.l0 k K K (K.length : Int) (i : Int)) _ true round (Ev.step (f := fun _ => some true) (fun k => by simp only [impl_areRising.l0]; rw [if_neg (by omega)]) (Ev.now _)) h
 ·rw [ch_no h]
  exact loop_no K.length (fun i k => impl_areRising.l0 k K K (K.length : Int) (i : Int)) _ false round stop h
theorem valsI (V : List ByteArray) (hV : V.length ≤ 2000000) : Ev (fun k => slices_ContainsFunc_impl_arePairs_1.f k V) (!(V.all valB)) := by
 rw [← not_any]
 exact has_str V slices_IndexFunc_impl_arePairs_1.l0 (fun _ s => impl_arePairs_1.f s) (fun s => !valB s) (fun k n i => rfl) (fun x _ => Ev.now _) (by omega)
theorem pairsI (K V : List ByteArray) (hK : K.length ≤ 2000000) (hV : V.length ≤ 2000000) : Ev (fun k => impl_arePairs.f k K V) (ch (K.length ≤ 40 ∧ V.length = K.length ∧ (∀ i, i < K.length → keyB (tx K i) = true ∧ risesAt K i) ∧ V.all valB = true)) := by
 unfold impl_arePairs.f
 by_cases h1 : K.length ≤ 40
 ·refine ev_pos (by omega) ?_
  by_cases h2 : V.length = K.length
  ·refine ev_pos (by omega) (ev_bind (risingI K hK) ?_)
   by_cases h3 : ∀ i, i < K.length → keyB (tx K i) = true ∧ risesAt K i
   ·rw [ch_yes h3]
    refine ev_pos rfl (ev_bind (valsI V hV) (ev_eq (Ev.now _) ?_))
    cases h4 : V.all valB with
    | true => exact (ch_yes ⟨h1, h2, h3, rfl⟩).symm
    | false => rw [ch_no (fun h => by simp at h)]; rfl
   ·rw [ch_no h3]
    exact ev_eq (ev_neg (by simp) (Ev.now _)) (ch_no (fun h => h3 h.2.2.1)).symm
  ·exact ev_eq (ev_neg (by omega) (Ev.now _)) (ch_no (fun h => h2 h.2.1)).symm
 ·exact ev_eq (ev_neg (by omega) (Ev.now _)) (ch_no (fun h => h1 h.1)).symm
theorem bytes_l1 : ∀ k x C n i, impl_Shown_bytes.l1 k x C n i = spec_l6Bytes.l1 k x C n i := by
 intro k
 induction k with
 | zero => intros; rfl
 | succ k ih => intros; simp only [impl_Shown_bytes.l1, spec_l6Bytes.l1, ih]
theorem bytes_l0 : ∀ k x K0 n i K V C g, impl_Shown_bytes.l0 k x K0 n i K V C g = spec_l6Bytes.l0 k x K0 n i K V C g := by
 intro k
 induction k with
 | zero => intros; rfl
 | succ k ih => intros; simp only [impl_Shown_bytes.l0, spec_l6Bytes.l0, ih, bytes_l1, impl_oneByte.f, Option.bind_some]
theorem bytes_eq (k : Nat) (K V C : List ByteArray) (g : Int) : impl_Shown_bytes.f k K V C g = spec_l6Bytes.f k K V C g := by
 unfold impl_Shown_bytes.f spec_l6Bytes.f impl_oneByte.f
 simp only [Option.bind_some]
 exact bytes_l0 _ _ _ _ _ _ _ _ _
theorem k103 : Kd_ 103 := ⟨by decide, by decide⟩
theorem eqShown (K V C : List ByteArray) (g : Int) (hK : K.length ≤ 2000000) (hV : V.length ≤ 2000000) (hC : C.length ≤ 2000000) : Ev (fun k => laws_eqShown.f k K V C g K V C g) true :=
 ev_bind (eqS_yes K hK) (ev_pos rfl (ev_bind (eqS_yes V hV) (ev_pos rfl (ev_bind (eqS_yes C hC) (ev_pos rfl (ev_pos rfl (Ev.now _)))))))
end Go.Proofs.Ytnplghcbdaiogaa.PW
end
