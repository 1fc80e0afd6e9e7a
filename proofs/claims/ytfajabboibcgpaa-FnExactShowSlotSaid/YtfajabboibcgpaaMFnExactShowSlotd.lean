/- For the law FnExactShowSlot: what it needs of the words, of the printed functions and of the plain laws, in few texts (laid by merge.py of this workplace). -/
import Derived.Test.YtfajabboibcgpaaMFnExactShowSlotc
import Derived.Laws.BitsLemmas
section
namespace Go.Proofs.Ytfajabboibcgpaa.PA
open Go.RowKit Go.Proofs.YtfajabboibcgpaaW.PrintWords Go.Proofs.YtfajabboibcgpaaW.PrintLast Go.Proofs.YtfajabboibcgpaaW.PrintMore
attribute [local go_sem] max2_int min2_int max_two min_two max_three min_three max_four min_four   -- for this text's walks alone
set_option linter.unusedVariables false
set_option linter.unusedSimpArgs false
def spec_ShowSlot.f (k : Nat) (l0 : List (S72)) (a1 : Int) : Option (ByteArray × ByteArray × ByteArray × ByteArray × Bool × List ByteArray × Bool) := (spec_l15There.f k l0 a1).bind fun t708 => (if t708 = true then (if 0 ≤ a1 then (if a1 < (l0.length : Int) then ((spec_l15Texts.f k l0).bind fun t710 => (some ((rd_T72 l0 a1).f0, (rd_T72 l0 a1).f1, (rd_T72 l0 a1).f2, (rd_T72 l0 a1).f3, (rd_T72 l0 a1).f4, t710, true))) else (none)) else (none)) else (some ((⟨#[]⟩ : ByteArray), (⟨#[]⟩ : ByteArray), (⟨#[]⟩ : ByteArray), (⟨#[]⟩ : ByteArray), false, ([] : List ByteArray), false)))
def spec_ShowSlot.T3 : Bool × List (List Nat × List Nat) := (true, [([], []), ([], []), ([0, 1], [0, 1]), ([2], [2]), ([], []), ([4], [4]), ([3, 5, 0, 1, 2, 3], [3]), ([5, 6, 0, 1, 2, 3, 4, 5, 6], [5]), ([7, 0, 1, 2, 3, 4, 5, 6, 7], [])])
def spec_ShowSlot.B3 : List Nat := [0, 0, 3, 7, 0, 16, 63, 127, 255]
theorem spec_ShowSlot.tab3 : rtab .any (opsOf Try.f65 3) = spec_ShowSlot.T3 := by kernel_rfl
theorem spec_ShowSlot.bits3 : waitsOk spec_ShowSlot.T3.2 spec_ShowSlot.B3 = true := by kernel_rfl
set_option maxHeartbeats 8000000 in
set_option maxRecDepth 100000 in
theorem spec_ShowSlot.calls (k : Nat) (A0 : Option Addr) (c0 : Nat) (l0 : List (S72)) (a1 : Int) (r1 : ByteArray) (r2 : ByteArray) (r3 : ByteArray) (r4 : ByteArray) (r5 : Bool) (r6 : List ByteArray) (r7 : Bool) (w : World) (hr0 : Kd.C k72 w A0 l0.length l0) (hc0 : l0.length ≤ c0) (h : spec_ShowSlot.f k l0 a1 = some (r1, r2, r3, r4, r5, r6, r7)) :
  Calls Try.prog 65 #[.slice A0 l0.length c0, .int .i64 a1] w fun e w' => ∃ v5_ : Value, e = .returned (.tuple #[.agg #[.string r1, .string r2, .string r3, .string r4, .bool r5], v5_, .bool r7]) ∧ Kd.R Kd.string 9 w' w.heap.size (fun _ => True) v5_ r6 ∧ Below w.heap.size w w' := by
 have hu72 := Try.underlying72
 have HR0 := Aside0.mk hr0
 have HC0 := Aside0.mk hc0
 clear hr0 hc0
 have HB := Aside0.mk (Below.refl w.heap.size w)
 have H : ((spec_l15There.f k l0 a1).bind fun t708 => (if t708 = true then (if 0 ≤ a1 then (if a1 < (l0.length : Int) then ((spec_l15Texts.f k l0).bind fun t710 => (some ((rd_T72 l0 a1).f0, (rd_T72 l0 a1).f1, (rd_T72 l0 a1).f2, (rd_T72 l0 a1).f3, (rd_T72 l0 a1).f4, t710, true))) else (none)) else (none)) else (some ((⟨#[]⟩ : ByteArray), (⟨#[]⟩ : ByteArray), (⟨#[]⟩ : ByteArray), (⟨#[]⟩ : ByteArray), false, ([] : List ByteArray), false)))) = some (r1, r2, r3, r4, r5, r6, r7) := h
 clear h
 replace H := Option.bind_eq_some_iff.mp H
 obtain ⟨t708, A30, H⟩ := H
 replace H : (if t708 = true then (if 0 ≤ a1 then (if a1 < (l0.length : Int) then ((spec_l15Texts.f k l0).bind fun t710 => (some ((rd_T72 l0 a1).f0, (rd_T72 l0 a1).f1, (rd_T72 l0 a1).f2, (rd_T72 l0 a1).f3, (rd_T72 l0 a1).f4, t710, true))) else (none)) else (none)) else (some ((⟨#[]⟩ : ByteArray), (⟨#[]⟩ : ByteArray), (⟨#[]⟩ : ByteArray), (⟨#[]⟩ : ByteArray), false, ([] : List ByteArray), false))) = some (r1, r2, r3, r4, r5, r6, r7) := H
 have A3 := Aside0.mk A30
 clear A30
 by_cases c4 : t708 = true
 ·subst c4
  have H1 : (if 0 ≤ a1 then (if a1 < (l0.length : Int) then ((spec_l15Texts.f k l0).bind fun t710 => (some ((rd_T72 l0 a1).f0, (rd_T72 l0 a1).f1, (rd_T72 l0 a1).f2, (rd_T72 l0 a1).f3, (rd_T72 l0 a1).f4, t710, true))) else (none)) else (none)) = some (r1, r2, r3, r4, r5, r6, r7) := by rw [if_pos rfl] at H; exact H
  clear H
  have H := H1
  clear H1
  by_cases c5 : 0 ≤ a1
  ·rw [if_pos c5] at H
   have c5b0 : decide (0 ≤ a1) = true := decide_eq_true c5
   clear c5
   by_cases c6 : a1 < (l0.length : Int)
   ·rw [if_pos c6] at H
    have c6b0 : decide (a1 < (l0.length : Int)) = true := decide_eq_true c6
    clear c6
    replace H := Option.bind_eq_some_iff.mp H
    obtain ⟨t710, A70, H⟩ := H
    replace H : (some ((rd_T72 l0 a1).f0, (rd_T72 l0 a1).f1, (rd_T72 l0 a1).f2, (rd_T72 l0 a1).f3, (rd_T72 l0 a1).f4, t710, true)) = some (r1, r2, r3, r4, r5, r6, r7) := H
    have A7 := Aside0.mk A70
    clear A70
    simp only [Option.some.injEq, Prod.mk.injEq] at H
    obtain ⟨rfl, rfl, rfl, rfl, rfl, rfl, rfl⟩ := H
    go_enter Try.func65, Try.ntmps65
    try go_wp2_with (first | ((with_reducible refine gate_dst (N := 4) rfl ?_); refine box_event ?hg (N := 4) ?hd (cs := #[.string (⟨#[]⟩ : ByteArray), .string (⟨#[]⟩ : ByteArray), .string (⟨#[]⟩ : ByteArray), .string (⟨#[]⟩ : ByteArray), .bool false]) (t := 72) ?hr ?_; (case hd => rfl); (case hg => rfl); (case hr => first | (go_simp; done) | (go_simp; rfl)); intro gb707 hg w8 hbox hb; have n0_ := Aside0.mk (below_step (by repeat (first | (with_reducible first | exact HB.out | apply below_alloc | apply pw_below_drewN | apply below_drew1) | exact HB.out)) hb); have n1_ := Aside0.mk (hbox); have n2_ := Aside0.mk ((by rw [hg]; exact (below_size (by repeat (first | (with_reducible first | exact HB.out | apply below_alloc | apply pw_below_drewN | apply below_drew1) | exact HB.out))) : w.heap.size ≤ gb707)); have n3_ := Aside0.mk ((by rw [hg]; exact (below_size (by repeat (first | (with_reducible first | exact HB.out | apply below_alloc | apply pw_below_drewN | apply below_drew1) | exact HB.out))) : w.heap.size ≤ gb707)); clear HB; have HB := n0_; have BK707 := n1_; have GW707 := n2_; have GE707 := n3_; clear n0_ n1_ n2_ n3_; clear hb hbox hg) | ((with_reducible refine gate_callee (f := 136) rfl ?_); refine goesL_ (some 9) rfl rfl Try.func136 (by kernel_rfl) rfl #[.slice A0 l0.length c0, .int .i64 a1] rfl (by (try simp only [List.map_toArray, List.map_cons, List.map_nil]); first | done | rfl | (simp only [List.length_drop, List.length_take]; rfl)) ?_; (with_reducible refine (spec_l15There.calls k _ _ l0 a1 true _ ?side1 ?side2 A3.out).mono ?_); (case side1 => repeat (first | exact (Kd.C_below HR0.out HB.out) | (with_reducible refine Kd.C_alloc ?_ _) | (with_reducible refine Kd.C_drewN ?_ _) | (with_reducible refine Kd.C_drew ?_))); (case side2 => exact HC0.out); rintro e w9 ⟨rfl, hb⟩; refine ⟨_, rfl, ?_⟩; have n0_ := Aside0.mk (blk_below (g := gb707) (o := .cells #[.string (⟨#[]⟩ : ByteArray), .string (⟨#[]⟩ : ByteArray), .string (⟨#[]⟩ : ByteArray), .string (⟨#[]⟩ : ByteArray), .bool false] 72 (0, 0)) (by (with_reducible repeat (first | refine blk_drewN ?_ _ | refine blk_drew ?_ | refine blk_alloc ?_ _)); exact BK707.out) hb); have n1_ := Aside0.mk (below_step (by repeat (first | (with_reducible first | exact HB.out | apply below_alloc | apply pw_below_drewN | apply below_drew1 | refine below_set ?_ GE707.out) | exact HB.out)) hb); clear BK707; clear HB; have BK707 := n0_; have HB := n1_; clear n0_ n1_; (try clear hb); (try clear hb2); (try clear hk); (try clear hi)))
    have n0_ := Aside0.mk (blk_drew BK707.out)
    have n1_ := Aside0.mk (below_drew1 HB.out)
    clear BK707
    clear HB
    have BK707 := n0_
    have HB := n1_
    clear n0_ n1_
    have p709 : 0 ≤ (a1 : Int) := of_decide_eq_true (by first | (with_reducible assumption) | assumption)
    have q709 : a1 < (l0.length : Int) := of_decide_eq_true (by first | (with_reducible assumption) | assumption)
    obtain ⟨ad709, e709, hx709_0, hx709_1, hx709_2, hx709_3, hx709_4⟩ := at_T72 HR0.out a1 p709 q709
    have hw709_4 := hx709_4
    have hw709_3 := hx709_3
    have hw709_2 := hx709_2
    have hw709_1 := hx709_1
    have hw709_0 := hx709_0
    cases e709
    replace hx709_0 := (HB.out.cell (World.block_lt_of_cell? w _ hx709_0)).trans hx709_0
    replace hx709_1 := (HB.out.cell (World.block_lt_of_cell? w _ hx709_1)).trans hx709_1
    replace hx709_2 := (HB.out.cell (World.block_lt_of_cell? w _ hx709_2)).trans hx709_2
    replace hx709_3 := (HB.out.cell (World.block_lt_of_cell? w _ hx709_3)).trans hx709_3
    replace hx709_4 := (HB.out.cell (World.block_lt_of_cell? w _ hx709_4)).trans hx709_4
    replace p709 := eq_true p709
    replace q709 := eq_true q709
    refine start_ (n := 9) (S := fun w' => w'.cell? (ad709.add ((a1).toNat * 5)) = some (.string ((rd_T72 l0 a1).f0)) ∧ w'.cell? ⟨(ad709.add ((a1).toNat * 5)).block, (ad709.add ((a1).toNat * 5)).off + 1, none⟩ = some (.string ((rd_T72 l0 a1).f1)) ∧ w'.cell? ⟨(ad709.add ((a1).toNat * 5)).block, (ad709.add ((a1).toNat * 5)).off + 2, none⟩ = some (.string ((rd_T72 l0 a1).f2)) ∧ w'.cell? ⟨(ad709.add ((a1).toNat * 5)).block, (ad709.add ((a1).toNat * 5)).off + 3, none⟩ = some (.string ((rd_T72 l0 a1).f3)) ∧ w'.cell? ⟨(ad709.add ((a1).toNat * 5)).block, (ad709.add ((a1).toNat * 5)).off + 4, none⟩ = some (.bool ((rd_T72 l0 a1).f4))) (ds := []) #[false, false, false, false, false, false, false, false, false] (by kernel_rfl) rfl rfl ⟨((HB.out.cell (World.block_lt_of_cell? w _ hw709_0)).trans hw709_0), ((HB.out.cell (World.block_lt_of_cell? w _ hw709_1)).trans hw709_1), ((HB.out.cell (World.block_lt_of_cell? w _ hw709_2)).trans hw709_2), ((HB.out.cell (World.block_lt_of_cell? w _ hw709_3)).trans hw709_3), ((HB.out.cell (World.block_lt_of_cell? w _ hw709_4)).trans hw709_4)⟩ (fun hHeld => ?_); refine with_tabW spec_ShowSlot.tab3 spec_ShowSlot.bits3 (fun HT_ HW_ => ?_)
    generalize w9.drew = w10 at BK707 HB hx709_0 hx709_1 hx709_2 hx709_3 hx709_4 hHeld ⊢
    refine pure_ (i := 0) (N := some 12) (v := ?_) (a' := ?_) #[true, false, false, false, false, false, false, false, false] rfl rfl (any_of HT_.out (by kernel_rfl)) (fun _ _ _ h => h) (Or.inl ⟨by rfl, ?_⟩) ?_ ?_
    rotate_left
    ·intro w'
     go_simp
     with_reducible rfl
    rotate_left
    ·simp only [Act.put, List.setIfInBounds_toArray, List.set_cons_zero, List.set_cons_succ, i64_w, i32_w]
     rfl
    refine pure_ (i := 1) (N := some 13) (v := ?_) (a' := ?_) #[true, true, false, false, false, false, false, false, false] rfl rfl (any_of HT_.out (by kernel_rfl)) (fun _ _ _ h => h) (Or.inl ⟨by rfl, ?_⟩) ?_ ?_
    rotate_left
    ·intro w'
     go_simp
     with_reducible rfl
    rotate_left
    ·simp only [Act.put, List.setIfInBounds_toArray, List.set_cons_zero, List.set_cons_succ, i64_w, i32_w]
     rfl
    refine pure_ (i := 2) (N := some 14) (v := ?_) (a' := ?_) #[true, true, true, false, false, false, false, false, false] rfl rfl (any_of HT_.out (by kernel_rfl)) (fun _ _ _ h => h) (Or.inl ⟨by rfl, ?_⟩) ?_ ?_
    rotate_left
    ·intro w'
     go_simp
     with_reducible rfl
    rotate_left
    ·simp only [Act.put, List.setIfInBounds_toArray, List.set_cons_zero, List.set_cons_succ, i64_w, i32_w]
     rfl
    refine pure_ (i := 4) (N := some 16) (v := ?_) (a' := ?_) #[true, true, true, false, true, false, false, false, false] rfl rfl (any_of HT_.out (by kernel_rfl)) (fun _ _ _ h => h) (Or.inl ⟨by rfl, ?_⟩) ?_ ?_
    rotate_left
    ·intro w'
     go_simp
     with_reducible rfl
    rotate_left
    ·simp only [Act.put, List.setIfInBounds_toArray, List.set_cons_zero, List.set_cons_succ, i64_w, i32_w]
     rfl
    refine take_ (i := 3) (N := some 15) (v := ?_) (a' := ?_) #[true, true, true, true, true, false, false, false, false] rfl rfl (take_ofW HT_.out HW_.out (by kernel_rfl)) (fun _ _ _ h => h) (Or.inl ⟨by rfl, ?_⟩) hHeld ?_ ?_
    rotate_left
    ·rintro w' ⟨s0, s1, s2, s3, s4⟩
     go_simp
     with_reducible rfl
    rotate_left
    ·simp only [Act.put, List.setIfInBounds_toArray, List.set_cons_zero, List.set_cons_succ, i64_w, i32_w]
     rfl
    refine one_ (i := 5) (N := some 17) #[true, true, true, true, true, true, false, false, false] rfl rfl (one_of HT_.out (by kernel_rfl)) (by decide) (fun K hK => ?_)
    refine goes_ Try.func92 (by kernel_rfl) rfl #[.slice (some ad709) l0.length c0] (by rfl) rfl rfl (by (try simp only [List.map_toArray, List.map_cons, List.map_nil]); first | done | rfl | (simp only [List.length_drop, List.length_take]; rfl)) ?_
    with_reducible refine (spec_l15Texts.calls k _ _ l0 t710 _ ?side1 ?side2 A7.out).mono ?_
    (case side1 => repeat (first | exact (Kd.C_below HR0.out HB.out) | (with_reducible refine Kd.C_alloc ?_ _) | (with_reducible refine Kd.C_drewN ?_ _) | (with_reducible refine Kd.C_drew ?_)))
    (case side2 => exact HC0.out)
    rintro e w11 ⟨v711, rfl, ho0, hb⟩
    refine ⟨_, rfl, ?_⟩
    have n0_ := Aside0.mk (Kd.R_lower ho0 (below_size (by repeat (first | (with_reducible first | exact HB.out | apply below_alloc | apply pw_below_drewN | apply below_drew1 | refine below_set ?_ GE707.out) | exact HB.out))))
    have n1_ := Aside0.mk (blk_below (g := gb707) (o := .cells #[.string (⟨#[]⟩ : ByteArray), .string (⟨#[]⟩ : ByteArray), .string (⟨#[]⟩ : ByteArray), .string (⟨#[]⟩ : ByteArray), .bool false] 72 (0, 0)) (by (with_reducible repeat (first | refine blk_drewN ?_ _ | refine blk_drew ?_ | refine blk_alloc ?_ _)); exact BK707.out) hb)
    have n2_ := Aside0.mk (below_step (by repeat (first | (with_reducible first | exact HB.out | apply below_alloc | apply pw_below_drewN | apply below_drew1 | refine below_set ?_ GE707.out) | exact HB.out)) hb)
    clear BK707
    clear HB
    have HO712 := n0_
    have BK707 := n1_
    have HB := n2_
    clear n0_ n1_ n2_
    (try clear hb)
    (try clear hb2)
    (try clear hk)
    (try clear hi)
    (try clear ho0)
    refine hK.out _ _ ⟨((HB.out.cell (World.block_lt_of_cell? w _ hw709_0)).trans hw709_0), ((HB.out.cell (World.block_lt_of_cell? w _ hw709_1)).trans hw709_1), ((HB.out.cell (World.block_lt_of_cell? w _ hw709_2)).trans hw709_2), ((HB.out.cell (World.block_lt_of_cell? w _ hw709_3)).trans hw709_3), ((HB.out.cell (World.block_lt_of_cell? w _ hw709_4)).trans hw709_4)⟩ (fun hHeld => ?_)
    clear hK K
    refine norm_ (a' := ?_) ?_ ?_
    rotate_left
    ·show Act.put _ (some 17) _ = _
     simp only [Act.put, List.setIfInBounds_toArray, List.set_cons_zero, List.set_cons_succ, i64_w, i32_w]
     rfl
    refine one_ (i := 6) (N := none) #[true, true, true, true, true, true, true, false, false] rfl rfl (one_of HT_.out (by kernel_rfl)) (by decide) (fun K hK => ?_)
    have hs12 : w11.cell? ⟨gb707, 0, none⟩ = some (.string (⟨#[]⟩ : ByteArray)) := (blk_cell BK707.out 0).trans rfl
    have hfs12 := blk_frozen BK707.out 0
    have hs13 : w11.cell? ⟨gb707, 1, none⟩ = some (.string (⟨#[]⟩ : ByteArray)) := (blk_cell BK707.out 1).trans rfl
    have hfs13 := blk_frozen BK707.out 1
    have hs14 : w11.cell? ⟨gb707, 2, none⟩ = some (.string (⟨#[]⟩ : ByteArray)) := (blk_cell BK707.out 2).trans rfl
    have hfs14 := blk_frozen BK707.out 2
    have hs15 : w11.cell? ⟨gb707, 3, none⟩ = some (.string (⟨#[]⟩ : ByteArray)) := (blk_cell BK707.out 3).trans rfl
    have hfs15 := blk_frozen BK707.out 3
    have hs16 : w11.cell? ⟨gb707, 4, none⟩ = some (.bool false) := (blk_cell BK707.out 4).trans rfl
    have hfs16 := blk_frozen BK707.out 4
    refine skip_ (w1 := ?_) (by rfl) rfl ?_ ?_
    rotate_left
    ·go_simp
     rfl
    refine hK.out _ _ ⟨((cell_far (p := ⟨gb707, _, none⟩) (by first | exact Nat.ne_of_lt (Nat.lt_of_lt_of_le (by have := World.block_lt_of_cell? _ _ hw709_0; first | rwa [add_block] at this | exact this) GW707.out) | (rw [add_block]; exact Nat.ne_of_lt (Nat.lt_of_lt_of_le (by have := World.block_lt_of_cell? _ _ hw709_0; first | rwa [add_block] at this | exact this) GW707.out)) | (show (Addr.add _ _).block ≠ _; rw [add_block]; exact Nat.ne_of_lt (Nat.lt_of_lt_of_le (by have := World.block_lt_of_cell? _ _ hw709_0; first | rwa [add_block] at this | exact this) GW707.out)) | (dsimp only; exact Nat.ne_of_lt (Nat.lt_of_lt_of_le (by have := World.block_lt_of_cell? _ _ hw709_0; first | rwa [add_block] at this | exact this) GW707.out))) _).trans (((cell_far (p := ⟨gb707, _, none⟩) (by first | exact Nat.ne_of_lt (Nat.lt_of_lt_of_le (by have := World.block_lt_of_cell? _ _ hw709_0; first | rwa [add_block] at this | exact this) GW707.out) | (rw [add_block]; exact Nat.ne_of_lt (Nat.lt_of_lt_of_le (by have := World.block_lt_of_cell? _ _ hw709_0; first | rwa [add_block] at this | exact this) GW707.out)) | (show (Addr.add _ _).block ≠ _; rw [add_block]; exact Nat.ne_of_lt (Nat.lt_of_lt_of_le (by have := World.block_lt_of_cell? _ _ hw709_0; first | rwa [add_block] at this | exact this) GW707.out)) | (dsimp only; exact Nat.ne_of_lt (Nat.lt_of_lt_of_le (by have := World.block_lt_of_cell? _ _ hw709_0; first | rwa [add_block] at this | exact this) GW707.out))) _).trans (((cell_far (p := ⟨gb707, _, none⟩) (by first | exact Nat.ne_of_lt (Nat.lt_of_lt_of_le (by have := World.block_lt_of_cell? _ _ hw709_0; first | rwa [add_block] at this | exact this) GW707.out) | (rw [add_block]; exact Nat.ne_of_lt (Nat.lt_of_lt_of_le (by have := World.block_lt_of_cell? _ _ hw709_0; first | rwa [add_block] at this | exact this) GW707.out)) | (show (Addr.add _ _).block ≠ _; rw [add_block]; exact Nat.ne_of_lt (Nat.lt_of_lt_of_le (by have := World.block_lt_of_cell? _ _ hw709_0; first | rwa [add_block] at this | exact this) GW707.out)) | (dsimp only; exact Nat.ne_of_lt (Nat.lt_of_lt_of_le (by have := World.block_lt_of_cell? _ _ hw709_0; first | rwa [add_block] at this | exact this) GW707.out))) _).trans (((cell_far (p := ⟨gb707, _, none⟩) (by first | exact Nat.ne_of_lt (Nat.lt_of_lt_of_le (by have := World.block_lt_of_cell? _ _ hw709_0; first | rwa [add_block] at this | exact this) GW707.out) | (rw [add_block]; exact Nat.ne_of_lt (Nat.lt_of_lt_of_le (by have := World.block_lt_of_cell? _ _ hw709_0; first | rwa [add_block] at this | exact this) GW707.out)) | (show (Addr.add _ _).block ≠ _; rw [add_block]; exact Nat.ne_of_lt (Nat.lt_of_lt_of_le (by have := World.block_lt_of_cell? _ _ hw709_0; first | rwa [add_block] at this | exact this) GW707.out)) | (dsimp only; exact Nat.ne_of_lt (Nat.lt_of_lt_of_le (by have := World.block_lt_of_cell? _ _ hw709_0; first | rwa [add_block] at this | exact this) GW707.out))) _).trans (((cell_far (p := ⟨gb707, _, none⟩) (by first | exact Nat.ne_of_lt (Nat.lt_of_lt_of_le (by have := World.block_lt_of_cell? _ _ hw709_0; first | rwa [add_block] at this | exact this) GW707.out) | (rw [add_block]; exact Nat.ne_of_lt (Nat.lt_of_lt_of_le (by have := World.block_lt_of_cell? _ _ hw709_0; first | rwa [add_block] at this | exact this) GW707.out)) | (show (Addr.add _ _).block ≠ _; rw [add_block]; exact Nat.ne_of_lt (Nat.lt_of_lt_of_le (by have := World.block_lt_of_cell? _ _ hw709_0; first | rwa [add_block] at this | exact this) GW707.out)) | (dsimp only; exact Nat.ne_of_lt (Nat.lt_of_lt_of_le (by have := World.block_lt_of_cell? _ _ hw709_0; first | rwa [add_block] at this | exact this) GW707.out))) _).trans (hHeld.1)))))))))), ((cell_far (p := ⟨gb707, _, none⟩) (by first | exact Nat.ne_of_lt (Nat.lt_of_lt_of_le (by have := World.block_lt_of_cell? _ _ hw709_1; first | rwa [add_block] at this | exact this) GW707.out) | (rw [add_block]; exact Nat.ne_of_lt (Nat.lt_of_lt_of_le (by have := World.block_lt_of_cell? _ _ hw709_1; first | rwa [add_block] at this | exact this) GW707.out)) | (show (Addr.add _ _).block ≠ _; rw [add_block]; exact Nat.ne_of_lt (Nat.lt_of_lt_of_le (by have := World.block_lt_of_cell? _ _ hw709_1; first | rwa [add_block] at this | exact this) GW707.out)) | (dsimp only; exact Nat.ne_of_lt (Nat.lt_of_lt_of_le (by have := World.block_lt_of_cell? _ _ hw709_1; first | rwa [add_block] at this | exact this) GW707.out))) _).trans (((cell_far (p := ⟨gb707, _, none⟩) (by first | exact Nat.ne_of_lt (Nat.lt_of_lt_of_le (by have := World.block_lt_of_cell? _ _ hw709_1; first | rwa [add_block] at this | exact this) GW707.out) | (rw [add_block]; exact Nat.ne_of_lt (Nat.lt_of_lt_of_le (by have := World.block_lt_of_cell? _ _ hw709_1; first | rwa [add_block] at this | exact this) GW707.out)) | (show (Addr.add _ _).block ≠ _; rw [add_block]; exact Nat.ne_of_lt (Nat.lt_of_lt_of_le (by have := World.block_lt_of_cell? _ _ hw709_1; first | rwa [add_block] at this | exact this) GW707.out)) | (dsimp only; exact Nat.ne_of_lt (Nat.lt_of_lt_of_le (by have := World.block_lt_of_cell? _ _ hw709_1; first | rwa [add_block] at this | exact this) GW707.out))) _).trans (((cell_far (p := ⟨gb707, _, none⟩) (by first | exact Nat.ne_of_lt (Nat.lt_of_lt_of_le (by have := World.block_lt_of_cell? _ _ hw709_1; first | rwa [add_block] at this | exact this) GW707.out) | (rw [add_block]; exact Nat.ne_of_lt (Nat.lt_of_lt_of_le (by have := World.block_lt_of_cell? _ _ hw709_1; first | rwa [add_block] at this | exact this) GW707.out)) | (show (Addr.add _ _).block ≠ _; rw [add_block]; exact Nat.ne_of_lt (Nat.lt_of_lt_of_le (by have := World.block_lt_of_cell? _ _ hw709_1; first | rwa [add_block] at this | exact this) GW707.out)) | (dsimp only; exact Nat.ne_of_lt (Nat.lt_of_lt_of_le (by have := World.block_lt_of_cell? _ _ hw709_1; first | rwa [add_block] at this | exact this) GW707.out))) _).trans (((cell_far (p := ⟨gb707, _, none⟩) (by first | exact Nat.ne_of_lt (Nat.lt_of_lt_of_le (by have := World.block_lt_of_cell? _ _ hw709_1; first | rwa [add_block] at this | exact this) GW707.out) | (rw [add_block]; exact Nat.ne_of_lt (Nat.lt_of_lt_of_le (by have := World.block_lt_of_cell? _ _ hw709_1; first | rwa [add_block] at this | exact this) GW707.out)) | (show (Addr.add _ _).block ≠ _; rw [add_block]; exact Nat.ne_of_lt (Nat.lt_of_lt_of_le (by have := World.block_lt_of_cell? _ _ hw709_1; first | rwa [add_block] at this | exact this) GW707.out)) | (dsimp only; exact Nat.ne_of_lt (Nat.lt_of_lt_of_le (by have := World.block_lt_of_cell? _ _ hw709_1; first | rwa [add_block] at this | exact this) GW707.out))) _).trans (((cell_far (p := ⟨gb707, _, none⟩) (by first | exact Nat.ne_of_lt (Nat.lt_of_lt_of_le (by have := World.block_lt_of_cell? _ _ hw709_1; first | rwa [add_block] at this | exact this) GW707.out) | (rw [add_block]; exact Nat.ne_of_lt (Nat.lt_of_lt_of_le (by have := World.block_lt_of_cell? _ _ hw709_1; first | rwa [add_block] at this | exact this) GW707.out)) | (show (Addr.add _ _).block ≠ _; rw [add_block]; exact Nat.ne_of_lt (Nat.lt_of_lt_of_le (by have := World.block_lt_of_cell? _ _ hw709_1; first | rwa [add_block] at this | exact this) GW707.out)) | (dsimp only; exact Nat.ne_of_lt (Nat.lt_of_lt_of_le (by have := World.block_lt_of_cell? _ _ hw709_1; first | rwa [add_block] at this | exact this) GW707.out))) _).trans (hHeld.2.1)))))))))), ((cell_far (p := ⟨gb707, _, none⟩) (by first | exact Nat.ne_of_lt (Nat.lt_of_lt_of_le (by have := World.block_lt_of_cell? _ _ hw709_2; first | rwa [add_block] at this | exact this) GW707.out) | (rw [add_block]; exact Nat.ne_of_lt (Nat.lt_of_lt_of_le (by have := World.block_lt_of_cell? _ _ hw709_2; first | rwa [add_block] at this | exact this) GW707.out)) | (show (Addr.add _ _).block ≠ _; rw [add_block]; exact Nat.ne_of_lt (Nat.lt_of_lt_of_le (by have := World.block_lt_of_cell? _ _ hw709_2; first | rwa [add_block] at this | exact this) GW707.out)) | (dsimp only; exact Nat.ne_of_lt (Nat.lt_of_lt_of_le (by have := World.block_lt_of_cell? _ _ hw709_2; first | rwa [add_block] at this | exact this) GW707.out))) _).trans (((cell_far (p := ⟨gb707, _, none⟩) (by first | exact Nat.ne_of_lt (Nat.lt_of_lt_of_le (by have := World.block_lt_of_cell? _ _ hw709_2; first | rwa [add_block] at this | exact this) GW707.out) | (rw [add_block]; exact Nat.ne_of_lt (Nat.lt_of_lt_of_le (by have := World.block_lt_of_cell? _ _ hw709_2; first | rwa [add_block] at this | exact this) GW707.out)) | (show (Addr.add _ _).block ≠ _; rw [add_block]; exact Nat.ne_of_lt (Nat.lt_of_lt_of_le (by have := World.block_lt_of_cell? _ _ hw709_2; first | rwa [add_block] at this | exact this) GW707.out)) | (dsimp only; exact Nat.ne_of_lt (Nat.lt_of_lt_of_le (by have := World.block_lt_of_cell? _ _ hw709_2; first | rwa [add_block] at this | exact this) GW707.out))) _).trans (((cell_far (p := ⟨gb707, _, none⟩) (by first | exact Nat.ne_of_lt (Nat.lt_of_lt_of_le (by have := World.block_lt_of_cell? _ _ hw709_2; first | rwa [add_block] at this | exact this) GW707.out) | (rw [add_block]; exact Nat.ne_of_lt (Nat.lt_of_lt_of_le (by have := World.block_lt_of_cell? _ _ hw709_2; first | rwa [add_block] at this | exact this) GW707.out)) | (show (Addr.add _ _).block ≠ _; rw [add_block]; exact Nat.ne_of_lt (Nat.lt_of_lt_of_le (by have := World.block_lt_of_cell? _ _ hw709_2; first | rwa [add_block] at this | exact this) GW707.out)) | (dsimp only; exact Nat.ne_of_lt (Nat.lt_of_lt_of_le (by have := World.block_lt_of_cell? _ _ hw709_2; first | rwa [add_block] at this | exact this) GW707.out))) _).trans (((cell_far (p := ⟨gb707, _, none⟩) (by first | exact Nat.ne_of_lt (Nat.lt_of_lt_of_le (by have := World.block_lt_of_cell? _ _ hw709_2; first | rwa [add_block] at this | exact this) GW707.out) | (rw [add_block]; exact Nat.ne_of_lt (Nat.lt_of_lt_of_le (by have := World.block_lt_of_cell? _ _ hw709_2; first | rwa [add_block] at this | exact this) GW707.out)) | (show (Addr.add _ _).block ≠ _; rw [add_block]; exact Nat.ne_of_lt (Nat.lt_of_lt_of_le (by have := World.block_lt_of_cell? _ _ hw709_2; first | rwa [add_block] at this | exact this) GW707.out)) | (dsimp only; exact Nat.ne_of_lt (Nat.lt_of_lt_of_le (by have := World.block_lt_of_cell? _ _ hw709_2; first | rwa [add_block] at this | exact this) GW707.out))) _).trans (((cell_far (p := ⟨gb707, _, none⟩) (by first | exact Nat.ne_of_lt (Nat.lt_of_lt_of_le (by have := World.block_lt_of_cell? _ _ hw709_2; first | rwa [add_block] at this | exact this) GW707.out) | (rw [add_block]; exact Nat.ne_of_lt (Nat.lt_of_lt_of_le (by have := World.block_lt_of_cell? _ _ hw709_2; first | rwa [add_block] at this | exact this) GW707.out)) | (show (Addr.add _ _).block ≠ _; rw [add_block]; exact Nat.ne_of_lt (Nat.lt_of_lt_of_le (by have := World.block_lt_of_cell? _ _ hw709_2; first | rwa [add_block] at this | exact this) GW707.out)) | (dsimp only; exact Nat.ne_of_lt (Nat.lt_of_lt_of_le (by have := World.block_lt_of_cell? _ _ hw709_2; first | rwa [add_block] at this | exact this) GW707.out))) _).trans (hHeld.2.2.1)))))))))), ((cell_far (p := ⟨gb707, _, none⟩) (by first | exact Nat.ne_of_lt (Nat.lt_of_lt_of_le (by have := World.block_lt_of_cell? _ _ hw709_3; first | rwa [add_block] at this | exact this) GW707.out) | (rw [add_block]; exact Nat.ne_of_lt (Nat.lt_of_lt_of_le (by have := World.block_lt_of_cell? _ _ hw709_3; first | rwa [add_block] at this | exact this) GW707.out)) | (show (Addr.add _ _).block ≠ _; rw [add_block]; exact Nat.ne_of_lt (Nat.lt_of_lt_of_le (by have := World.block_lt_of_cell? _ _ hw709_3; first | rwa [add_block] at this | exact this) GW707.out)) | (dsimp only; exact Nat.ne_of_lt (Nat.lt_of_lt_of_le (by have := World.block_lt_of_cell? _ _ hw709_3; first | rwa [add_block] at this | exact this) GW707.out))) _).trans (((cell_far (p := ⟨gb707, _, none⟩) (by first | exact Nat.ne_of_lt (Nat.lt_of_lt_of_le (by have := World.block_lt_of_cell? _ _ hw709_3; first | rwa [add_block] at this | exact this) GW707.out) | (rw [add_block]; exact Nat.ne_of_lt (Nat.lt_of_lt_of_le (by have := World.block_lt_of_cell? _ _ hw709_3; first | rwa [add_block] at this | exact this) GW707.out)) | (show (Addr.add _ _).block ≠ _; rw [add_block]; exact Nat.ne_of_lt (Nat.lt_of_lt_of_le (by have := World.block_lt_of_cell? _ _ hw709_3; first | rwa [add_block] at this | exact this) GW707.out)) | (dsimp only; exact Nat.ne_of_lt (Nat.lt_of_lt_of_le (by have := World.block_lt_of_cell? _ _ hw709_3; first | rwa [add_block] at this | exact this) GW707.out))) _).trans (((cell_far (p := ⟨gb707, _, none⟩) (by first | exact Nat.ne_of_lt (Nat.lt_of_lt_of_le (by have := World.block_lt_of_cell? _ _ hw709_3; first | rwa [add_block] at this | exact this) GW707.out) | (rw [add_block]; exact Nat.ne_of_lt (Nat.lt_of_lt_of_le (by have := World.block_lt_of_cell? _ _ hw709_3; first | rwa [add_block] at this | exact this) GW707.out)) | (show (Addr.add _ _).block ≠ _; rw [add_block]; exact Nat.ne_of_lt (Nat.lt_of_lt_of_le (by have := World.block_lt_of_cell? _ _ hw709_3; first | rwa [add_block] at this | exact this) GW707.out)) | (dsimp only; exact Nat.ne_of_lt (Nat.lt_of_lt_of_le (by have := World.block_lt_of_cell? _ _ hw709_3; first | rwa [add_block] at this | exact this) GW707.out))) _).trans (((cell_far (p := ⟨gb707, _, none⟩) (by first | exact Nat.ne_of_lt (Nat.lt_of_lt_of_le (by have := World.block_lt_of_cell? _ _ hw709_3; first | rwa [add_block] at this | exact this) GW707.out) | (rw [add_block]; exact Nat.ne_of_lt (Nat.lt_of_lt_of_le (by have := World.block_lt_of_cell? _ _ hw709_3; first | rwa [add_block] at this | exact this) GW707.out)) | (show (Addr.add _ _).block ≠ _; rw [add_block]; exact Nat.ne_of_lt (Nat.lt_of_lt_of_le (by have := World.block_lt_of_cell? _ _ hw709_3; first | rwa [add_block] at this | exact this) GW707.out)) | (dsimp only; exact Nat.ne_of_lt (Nat.lt_of_lt_of_le (by have := World.block_lt_of_cell? _ _ hw709_3; first | rwa [add_block] at this | exact this) GW707.out))) _).trans (((cell_far (p := ⟨gb707, _, none⟩) (by first | exact Nat.ne_of_lt (Nat.lt_of_lt_of_le (by have := World.block_lt_of_cell? _ _ hw709_3; first | rwa [add_block] at this | exact this) GW707.out) | (rw [add_block]; exact Nat.ne_of_lt (Nat.lt_of_lt_of_le (by have := World.block_lt_of_cell? _ _ hw709_3; first | rwa [add_block] at this | exact this) GW707.out)) | (show (Addr.add _ _).block ≠ _; rw [add_block]; exact Nat.ne_of_lt (Nat.lt_of_lt_of_le (by have := World.block_lt_of_cell? _ _ hw709_3; first | rwa [add_block] at this | exact this) GW707.out)) | (dsimp only; exact Nat.ne_of_lt (Nat.lt_of_lt_of_le (by have := World.block_lt_of_cell? _ _ hw709_3; first | rwa [add_block] at this | exact this) GW707.out))) _).trans (hHeld.2.2.2.1)))))))))), ((cell_far (p := ⟨gb707, _, none⟩) (by first | exact Nat.ne_of_lt (Nat.lt_of_lt_of_le (by have := World.block_lt_of_cell? _ _ hw709_4; first | rwa [add_block] at this | exact this) GW707.out) | (rw [add_block]; exact Nat.ne_of_lt (Nat.lt_of_lt_of_le (by have := World.block_lt_of_cell? _ _ hw709_4; first | rwa [add_block] at this | exact this) GW707.out)) | (show (Addr.add _ _).block ≠ _; rw [add_block]; exact Nat.ne_of_lt (Nat.lt_of_lt_of_le (by have := World.block_lt_of_cell? _ _ hw709_4; first | rwa [add_block] at this | exact this) GW707.out)) | (dsimp only; exact Nat.ne_of_lt (Nat.lt_of_lt_of_le (by have := World.block_lt_of_cell? _ _ hw709_4; first | rwa [add_block] at this | exact this) GW707.out))) _).trans (((cell_far (p := ⟨gb707, _, none⟩) (by first | exact Nat.ne_of_lt (Nat.lt_of_lt_of_le (by have := World.block_lt_of_cell? _ _ hw709_4; first | rwa [add_block] at this | exact this) GW707.out) | (rw [add_block]; exact Nat.ne_of_lt (Nat.lt_of_lt_of_le (by have := World.block_lt_of_cell? _ _ hw709_4; first | rwa [add_block] at this | exact this) GW707.out)) | (show (Addr.add _ _).block ≠ _; rw [add_block]; exact Nat.ne_of_lt (Nat.lt_of_lt_of_le (by have := World.block_lt_of_cell? _ _ hw709_4; first | rwa [add_block] at this | exact this) GW707.out)) | (dsimp only; exact Nat.ne_of_lt (Nat.lt_of_lt_of_le (by have := World.block_lt_of_cell? _ _ hw709_4; first | rwa [add_block] at this | exact this) GW707.out))) _).trans (((cell_far (p := ⟨gb707, _, none⟩) (by first | exact Nat.ne_of_lt (Nat.lt_of_lt_of_le (by have := World.block_lt_of_cell? _ _ hw709_4; first | rwa [add_block] at this | exact this) GW707.out) | (rw [add_block]; exact Nat.ne_of_lt (Nat.lt_of_lt_of_le (by have := World.block_lt_of_cell? _ _ hw709_4; first | rwa [add_block] at this | exact this) GW707.out)) | (show (Addr.add _ _).block ≠ _; rw [add_block]; exact Nat.ne_of_lt (Nat.lt_of_lt_of_le (by have := World.block_lt_of_cell? _ _ hw709_4; first | rwa [add_block] at this | exact this) GW707.out)) | (dsimp only; exact Nat.ne_of_lt (Nat.lt_of_lt_of_le (by have := World.block_lt_of_cell? _ _ hw709_4; first | rwa [add_block] at this | exact this) GW707.out))) _).trans (((cell_far (p := ⟨gb707, _, none⟩) (by first | exact Nat.ne_of_lt (Nat.lt_of_lt_of_le (by have := World.block_lt_of_cell? _ _ hw709_4; first | rwa [add_block] at this | exact this) GW707.out) | (rw [add_block]; exact Nat.ne_of_lt (Nat.lt_of_lt_of_le (by have := World.block_lt_of_cell? _ _ hw709_4; first | rwa [add_block] at this | exact this) GW707.out)) | (show (Addr.add _ _).block ≠ _; rw [add_block]; exact Nat.ne_of_lt (Nat.lt_of_lt_of_le (by have := World.block_lt_of_cell? _ _ hw709_4; first | rwa [add_block] at this | exact this) GW707.out)) | (dsimp only; exact Nat.ne_of_lt (Nat.lt_of_lt_of_le (by have := World.block_lt_of_cell? _ _ hw709_4; first | rwa [add_block] at this | exact this) GW707.out))) _).trans (((cell_far (p := ⟨gb707, _, none⟩) (by first | exact Nat.ne_of_lt (Nat.lt_of_lt_of_le (by have := World.block_lt_of_cell? _ _ hw709_4; first | rwa [add_block] at this | exact this) GW707.out) | (rw [add_block]; exact Nat.ne_of_lt (Nat.lt_of_lt_of_le (by have := World.block_lt_of_cell? _ _ hw709_4; first | rwa [add_block] at this | exact this) GW707.out)) | (show (Addr.add _ _).block ≠ _; rw [add_block]; exact Nat.ne_of_lt (Nat.lt_of_lt_of_le (by have := World.block_lt_of_cell? _ _ hw709_4; first | rwa [add_block] at this | exact this) GW707.out)) | (dsimp only; exact Nat.ne_of_lt (Nat.lt_of_lt_of_le (by have := World.block_lt_of_cell? _ _ hw709_4; first | rwa [add_block] at this | exact this) GW707.out))) _).trans (hHeld.2.2.2.2))))))))))⟩ (fun hHeld => ?_)
    clear hK K
    refine pure_ (i := 7) (N := some 5) (v := ?_) (a' := ?_) #[true, true, true, true, true, true, true, true, false] rfl rfl (any_of HT_.out (by kernel_rfl)) (fun _ _ _ h => h) (Or.inl ⟨by rfl, ?_⟩) ?_ ?_
    rotate_left
    ·intro w'
     go_simp
     with_reducible rfl
    rotate_left
    ·simp only [Act.put, List.setIfInBounds_toArray, List.set_cons_zero, List.set_cons_succ, i64_w, i32_w]
     rfl
    refine pure_ (i := 8) (N := some 6) (v := ?_) (a' := ?_) #[true, true, true, true, true, true, true, true, true] rfl rfl (any_of HT_.out (by kernel_rfl)) (fun _ _ _ h => h) (Or.inl ⟨by rfl, ?_⟩) ?_ ?_
    rotate_left
    ·intro w'
     go_simp
     with_reducible rfl
    rotate_left
    ·simp only [Act.put, List.setIfInBounds_toArray, List.set_cons_zero, List.set_cons_succ, i64_w, i32_w]
     rfl
    refine done_ (done_of HT_.out (by kernel_rfl)) ?_
    try go_wp2
    refine bodyPost_ret (results_ctt rfl _ _ gb707 72 #[.string ((rd_T72 l0 a1).f0), .string ((rd_T72 l0 a1).f1), .string ((rd_T72 l0 a1).f2), .string ((rd_T72 l0 a1).f3), .bool ((rd_T72 l0 a1).f4)] (0, 0) _ rfl (by (with_reducible repeat (first | refine blk_drewN ?_ _ | refine blk_drew ?_ | refine blk_alloc ?_ _)); refine blk_put (cs := #[.string ((rd_T72 l0 a1).f0), .string ((rd_T72 l0 a1).f1), .string ((rd_T72 l0 a1).f2), .string ((rd_T72 l0 a1).f3), .bool false]) ?_ 4 _ rfl; (with_reducible repeat (first | refine blk_drewN ?_ _ | refine blk_drew ?_ | refine blk_alloc ?_ _)); refine blk_put (cs := #[.string ((rd_T72 l0 a1).f0), .string ((rd_T72 l0 a1).f1), .string ((rd_T72 l0 a1).f2), .string (⟨#[]⟩ : ByteArray), .bool false]) ?_ 3 _ rfl; (with_reducible repeat (first | refine blk_drewN ?_ _ | refine blk_drew ?_ | refine blk_alloc ?_ _)); refine blk_put (cs := #[.string ((rd_T72 l0 a1).f0), .string ((rd_T72 l0 a1).f1), .string (⟨#[]⟩ : ByteArray), .string (⟨#[]⟩ : ByteArray), .bool false]) ?_ 2 _ rfl; (with_reducible repeat (first | refine blk_drewN ?_ _ | refine blk_drew ?_ | refine blk_alloc ?_ _)); refine blk_put (cs := #[.string ((rd_T72 l0 a1).f0), .string (⟨#[]⟩ : ByteArray), .string (⟨#[]⟩ : ByteArray), .string (⟨#[]⟩ : ByteArray), .bool false]) ?_ 1 _ rfl; (with_reducible repeat (first | refine blk_drewN ?_ _ | refine blk_drew ?_ | refine blk_alloc ?_ _)); refine blk_put (cs := #[.string (⟨#[]⟩ : ByteArray), .string (⟨#[]⟩ : ByteArray), .string (⟨#[]⟩ : ByteArray), .string (⟨#[]⟩ : ByteArray), .bool false]) ?_ 0 _ rfl; (with_reducible repeat (first | refine blk_drewN ?_ _ | refine blk_drew ?_ | refine blk_alloc ?_ _)); exact BK707.out) Try.underlying72 rfl (by kernel_rfl)) rfl ?_
    exact ⟨_, by first | rfl | (simp [errW_none, errW_some] <;> rfl) | (simp [*, errW_none, errW_some] <;> rfl), by (with_reducible repeat (first | apply Kd.R_alloc | apply Kd.R_drewN | apply Kd.R_drew)); exact Kd.R_mono (Kd.R_far (p := ⟨gb707, 4, none⟩) (Kd.R_far (p := ⟨gb707, 3, none⟩) (Kd.R_far (p := ⟨gb707, 2, none⟩) (Kd.R_far (p := ⟨gb707, 1, none⟩) (Kd.R_far (p := ⟨gb707, 0, none⟩) (Kd.R_types HO712.out BK707.out (by decide)) (fun _ hk => hk.2) (.string ((rd_T72 l0 a1).f0))) (fun _ hk => hk.2) (.string ((rd_T72 l0 a1).f1))) (fun _ hk => hk.2) (.string ((rd_T72 l0 a1).f2))) (fun _ hk => hk.2) (.string ((rd_T72 l0 a1).f3))) (fun _ hk => hk.2) (.bool ((rd_T72 l0 a1).f4))) (fun _ hk => trivial), by repeat (first | (with_reducible first | exact HB.out | apply below_alloc | apply pw_below_drewN | apply below_drew1 | refine below_set ?_ GE707.out) | exact HB.out)⟩
   ·rw [if_neg c6] at H
    exact absurd H (by simp)
  ·rw [if_neg c5] at H
   exact absurd H (by simp)
 ·replace c4 := Bool.eq_false_iff.mpr c4
  subst c4
  have H1 : (some ((⟨#[]⟩ : ByteArray), (⟨#[]⟩ : ByteArray), (⟨#[]⟩ : ByteArray), (⟨#[]⟩ : ByteArray), false, ([] : List ByteArray), false)) = some (r1, r2, r3, r4, r5, r6, r7) := by rw [if_neg (show ¬ (false = true) by decide)] at H; exact H
  clear H
  have H := H1
  clear H1
  simp only [Option.some.injEq, Prod.mk.injEq] at H
  obtain ⟨rfl, rfl, rfl, rfl, rfl, rfl, rfl⟩ := H
  go_enter Try.func65, Try.ntmps65
  go_wp2_with (first | ((with_reducible refine gate_dst (N := 4) rfl ?_); refine box_event ?hg (N := 4) ?hd (cs := #[.string (⟨#[]⟩ : ByteArray), .string (⟨#[]⟩ : ByteArray), .string (⟨#[]⟩ : ByteArray), .string (⟨#[]⟩ : ByteArray), .bool false]) (t := 72) ?hr ?_; (case hd => rfl); (case hg => rfl); (case hr => first | (go_simp; done) | (go_simp; rfl)); intro gb707 hg w17 hbox hb; have n0_ := Aside0.mk (below_step (by repeat (first | (with_reducible first | exact HB.out | apply below_alloc | apply pw_below_drewN | apply below_drew1) | exact HB.out)) hb); have n1_ := Aside0.mk (hbox); have n2_ := Aside0.mk ((by rw [hg]; exact (below_size (by repeat (first | (with_reducible first | exact HB.out | apply below_alloc | apply pw_below_drewN | apply below_drew1) | exact HB.out))) : w.heap.size ≤ gb707)); have n3_ := Aside0.mk ((by rw [hg]; exact (below_size (by repeat (first | (with_reducible first | exact HB.out | apply below_alloc | apply pw_below_drewN | apply below_drew1) | exact HB.out))) : w.heap.size ≤ gb707)); clear HB; have HB := n0_; have BK707 := n1_; have GW707 := n2_; have GE707 := n3_; clear n0_ n1_ n2_ n3_; clear hb hbox hg) | ((with_reducible refine gate_callee (f := 136) rfl ?_); refine goesL_ (some 9) rfl rfl Try.func136 (by kernel_rfl) rfl #[.slice A0 l0.length c0, .int .i64 a1] rfl (by (try simp only [List.map_toArray, List.map_cons, List.map_nil]); first | done | rfl | (simp only [List.length_drop, List.length_take]; rfl)) ?_; (with_reducible refine (spec_l15There.calls k _ _ l0 a1 false _ ?side1 ?side2 A3.out).mono ?_); (case side1 => repeat (first | exact (Kd.C_below HR0.out HB.out) | (with_reducible refine Kd.C_alloc ?_ _) | (with_reducible refine Kd.C_drewN ?_ _) | (with_reducible refine Kd.C_drew ?_))); (case side2 => exact HC0.out); rintro e w18 ⟨rfl, hb⟩; refine ⟨_, rfl, ?_⟩; have n0_ := Aside0.mk (blk_below (g := gb707) (o := .cells #[.string (⟨#[]⟩ : ByteArray), .string (⟨#[]⟩ : ByteArray), .string (⟨#[]⟩ : ByteArray), .string (⟨#[]⟩ : ByteArray), .bool false] 72 (0, 0)) (by (with_reducible repeat (first | refine blk_drewN ?_ _ | refine blk_drew ?_ | refine blk_alloc ?_ _)); exact BK707.out) hb); have n1_ := Aside0.mk (below_step (by repeat (first | (with_reducible first | exact HB.out | apply below_alloc | apply pw_below_drewN | apply below_drew1 | refine below_set ?_ GE707.out) | exact HB.out)) hb); clear BK707; clear HB; have BK707 := n0_; have HB := n1_; clear n0_ n1_; (try clear hb); (try clear hb2); (try clear hk); (try clear hi); have hcz19_0 : w18.cell? ⟨gb707, 0, none⟩ = some (.string (⟨#[]⟩ : ByteArray)) := (blk_cell BK707.out 0).trans rfl; have hcz19_1 : w18.cell? ⟨gb707, 1, none⟩ = some (.string (⟨#[]⟩ : ByteArray)) := (blk_cell BK707.out 1).trans rfl; have hcz19_2 : w18.cell? ⟨gb707, 2, none⟩ = some (.string (⟨#[]⟩ : ByteArray)) := (blk_cell BK707.out 2).trans rfl; have hcz19_3 : w18.cell? ⟨gb707, 3, none⟩ = some (.string (⟨#[]⟩ : ByteArray)) := (blk_cell BK707.out 3).trans rfl; have hcz19_4 : w18.cell? ⟨gb707, 4, none⟩ = some (.bool false) := (blk_cell BK707.out 4).trans rfl; have hfz19_0 := blk_frozen BK707.out 0; have hfz19_1 := blk_frozen BK707.out 1; have hfz19_2 := blk_frozen BK707.out 2; have hfz19_3 := blk_frozen BK707.out 3; have hfz19_4 := blk_frozen BK707.out 4))
  refine bodyPost_ret (results_ctt rfl _ _ gb707 72 #[.string (⟨#[]⟩ : ByteArray), .string (⟨#[]⟩ : ByteArray), .string (⟨#[]⟩ : ByteArray), .string (⟨#[]⟩ : ByteArray), .bool false] (0, 0) _ rfl (by (with_reducible repeat (first | refine blk_drewN ?_ _ | refine blk_drew ?_ | refine blk_alloc ?_ _)); refine blk_put (cs := #[.string (⟨#[]⟩ : ByteArray), .string (⟨#[]⟩ : ByteArray), .string (⟨#[]⟩ : ByteArray), .string (⟨#[]⟩ : ByteArray), .bool false]) ?_ 4 _ rfl; (with_reducible repeat (first | refine blk_drewN ?_ _ | refine blk_drew ?_ | refine blk_alloc ?_ _)); refine blk_put (cs := #[.string (⟨#[]⟩ : ByteArray), .string (⟨#[]⟩ : ByteArray), .string (⟨#[]⟩ : ByteArray), .string (⟨#[]⟩ : ByteArray), .bool false]) ?_ 3 _ rfl; (with_reducible repeat (first | refine blk_drewN ?_ _ | refine blk_drew ?_ | refine blk_alloc ?_ _)); refine blk_put (cs := #[.string (⟨#[]⟩ : ByteArray), .string (⟨#[]⟩ : ByteArray), .string (⟨#[]⟩ : ByteArray), .string (⟨#[]⟩ : ByteArray), .bool false]) ?_ 2 _ rfl; (with_reducible repeat (first | refine blk_drewN ?_ _ | refine blk_drew ?_ | refine blk_alloc ?_ _)); refine blk_put (cs := #[.string (⟨#[]⟩ : ByteArray), .string (⟨#[]⟩ : ByteArray), .string (⟨#[]⟩ : ByteArray), .string (⟨#[]⟩ : ByteArray), .bool false]) ?_ 1 _ rfl; (with_reducible repeat (first | refine blk_drewN ?_ _ | refine blk_drew ?_ | refine blk_alloc ?_ _)); refine blk_put (cs := #[.string (⟨#[]⟩ : ByteArray), .string (⟨#[]⟩ : ByteArray), .string (⟨#[]⟩ : ByteArray), .string (⟨#[]⟩ : ByteArray), .bool false]) ?_ 0 _ rfl; (with_reducible repeat (first | refine blk_drewN ?_ _ | refine blk_drew ?_ | refine blk_alloc ?_ _)); exact BK707.out) Try.underlying72 rfl (by kernel_rfl)) rfl ?_
  exact ⟨_, by first | rfl | (simp [errW_none, errW_some] <;> rfl) | (simp [*, errW_none, errW_some] <;> rfl), by first | exact Kd.R_nil _ _ _ _ _ | exact Kd.N_nil _ _ _ _ _ | exact Kd.V_nil _ _ _ _ _ | exact Kd.Q_nil _ _ _ _ _ | exact Kd.S_nil _ _ _ _ _, by repeat (first | (with_reducible first | exact HB.out | apply below_alloc | apply pw_below_drewN | apply below_drew1 | refine below_set ?_ GE707.out) | exact HB.out)⟩
def laws_markStringS.l0 : Nat → List ByteArray → Int → Int → Option (Int × List ByteArray)
 | 0, _, _, _ => none
 | k + 1, x0, x1, x5 => if x5 < (x0.length : Int) then ((laws_markText.f k x1).bind fun t713 => (if 0 ≤ x5 then (laws_markStringS.l0 k (x0.set (x5 : Int).toNat t713) (wrap64 (x1 + 1)) (wrap64 (x5 + 1))) else (none))) else (some (x1, x0))
def laws_markStringS.f (k : Nat) (l0 : List ByteArray) (a1 : Int) : Option (Int × List ByteArray) := laws_markStringS.l0 k l0 a1 0
set_option maxHeartbeats 8000000 in
set_option maxRecDepth 100000 in
theorem laws_markStringS.calls (k : Nat) (P0_ : Nat → Prop) (u9000_ : Value) (l0 : List ByteArray) (a1 : Int) (r1 : Int) (r2 : List ByteArray) (w0 w : World) (hB : Below w0.heap.size w0 w) (ho0 : Kd.R Kd.string 9 w w0.heap.size P0_ u9000_ l0) (h : laws_markStringS.f k l0 a1 = some (r1, r2)) :
  Calls Try.prog 68 #[u9000_, .int .i64 a1] w fun e w' => e = .returned (.int .i64 r1) ∧ Kd.R Kd.string 9 w' w0.heap.size (fun k_ => (P0_ k_ ∨ w.heap.size ≤ k_)) u9000_ r2 ∧ Below w0.heap.size w0 w' ∧ Kept w w' (fun k_ => P0_ k_) := by
 have HO0 := Aside0.mk (show Kd.R Kd.string 9 w w0.heap.size (fun k_ => (P0_ k_ ∨ w.heap.size ≤ k_)) u9000_ l0 from Kd.R_mono ho0 (fun k_ hk => (.inl hk)))
 have HK := Aside0.mk (Kept.refl w (fun k_ => P0_ k_))
 have HW0 := Aside0.mk hB.size
 have HB := Aside0.mk hB
 clear hB
 have H : (laws_markStringS.l0 k l0 a1 0) = some (r1, r2) := h
 clear h
 have H' := Aside0.mk H
 clear H
 go_enter Try.func68, Try.ntmps68
 go_wp2
 go_loopg [1, 5] k (fun kq v1 v5 w' => ∃ (x0_1 : List ByteArray) (x1_1 : Int) (x5_1 : Int), v1 = .int .i64 x1_1 ∧ v5 = .int .i64 x5_1 ∧ Aside0 (laws_markStringS.l0 kq x0_1 x1_1 x5_1 = some (r1, r2)) ∧ Aside0 (kq ≤ k) ∧ Aside0 (Kd.R Kd.string 9 w' w0.heap.size (fun k_ => (P0_ k_ ∨ w.heap.size ≤ k_)) u9000_ x0_1) ∧ Aside0 (Kept w w' (fun k_ => P0_ k_)) ∧ Aside0 (Below w0.heap.size w0 w'))
 case atStart => exact ⟨(l0), (a1), (0), (by first | rfl | (simp; done) | (simp [*]; done) | (simp [bne]; done)), (by first | rfl | (simp; done) | (simp [*]; done) | (simp [bne]; done)), H', ⟨Nat.le_refl _⟩, ⟨by (with_reducible repeat (first | apply Kd.R_alloc | apply Kd.R_drewN | apply Kd.R_drew)); exact HO0.out⟩, ⟨by repeat (first | (with_reducible first | exact HK.out | apply Kept.alloc | apply Kept.drewN | apply Kept.drew) | exact HK.out)⟩, ⟨by repeat (first | (with_reducible first | exact HB.out | apply below_alloc | apply pw_below_drewN | apply below_drew1) | exact HB.out)⟩⟩
 case round =>
  clear H'
  try clear p2
  obtain ⟨x0_1, x1_1, x5_1, rfl, rfl, HA, HK1, HO_0, HK, HB⟩ := hrel
  cases gk with
  | zero => exact absurd HA.out (by simp [laws_markStringS.l0])
  | succ k1 =>
   have H := HA.out
   clear HA
   simp only [laws_markStringS.l0] at H
   by_cases c3 : x5_1 < (x0_1.length : Int)
   ·rw [if_pos c3] at H
    have c3b0 : decide (x5_1 < (x0_1.length : Int)) = true := decide_eq_true c3
    clear c3
    replace H := Option.bind_eq_some_iff.mp H
    obtain ⟨t713, A40, H⟩ := H
    replace H : (if 0 ≤ x5_1 then (laws_markStringS.l0 k1 (x0_1.set (x5_1 : Int).toNat t713) (wrap64 (x1_1 + 1)) (wrap64 (x5_1 + 1))) else (none)) = some (r1, r2) := H
    have A4 := Aside0.mk A40
    clear A40
    by_cases c5 : 0 ≤ x5_1
    ·rw [if_pos c5] at H
     have c5b0 : decide (0 ≤ x5_1) = true := decide_eq_true c5
     clear c5
     obtain ⟨y714, hy714⟩ : ∃ y_ : List ByteArray, y_ = (x0_1.set (x5_1 : Int).toNat t713) := ⟨_, rfl⟩
     replace H : (laws_markStringS.l0 k1 y714 (wrap64 (x1_1 + 1)) (wrap64 (x5_1 + 1))) = some (r1, r2) := by first | (rw [hy714]; with_reducible exact H) | (have H2_ := (Option.bind_some _ _).symm.trans H; rw [hy714]; with_reducible exact H2_) | (have H2_ := (Option.bind_some _ _).symm.trans H; with_reducible exact H2_) | with_reducible exact H | (rw [hy714]; exact H) | exact H
     have Ny714 := Aside0.mk hy714
     clear hy714
     have H' := Aside0.mk H
     clear H
     obtain ⟨Ao7, co7, eo7⟩ := Kd.R_slice HO_0.out
     subst eo7
     go_wp2_with (first | ((with_reducible refine gate_callee (f := 154) rfl ?_); refine goesL_ (some 15) rfl rfl Try.func154 (by kernel_rfl) rfl #[.int .i64 x1_1] rfl (by (try simp only [List.map_toArray, List.map_cons, List.map_nil]); first | done | rfl | (simp only [List.length_drop, List.length_take]; rfl)) ?_; (with_reducible refine (laws_markText.calls k1 x1_1 t713 _ A4.out).mono ?_); rintro e w8 ⟨rfl, hb⟩; refine ⟨_, rfl, ?_⟩; have n0_ := Aside0.mk (Kd.R_below (by (with_reducible repeat (first | apply Kd.R_alloc | apply Kd.R_drewN | apply Kd.R_drew)); exact HO_0.out) hb); have n1_ := Aside0.mk (Kept.below (S := (fun k_ => P0_ k_)) (by repeat (first | (with_reducible first | exact HK.out | apply Kept.alloc | apply Kept.drewN | apply Kept.drew) | exact HK.out)) hb); have n2_ := Aside0.mk (below_step (by repeat (first | (with_reducible first | exact HB.out | apply below_alloc | apply pw_below_drewN | apply below_drew1) | exact HB.out)) hb); clear HO_0; clear HK; clear HB; have HO_0 := n0_; have HK := n1_; have HB := n2_; clear n0_ n1_ n2_; (try clear hb); (try clear hb2); (try clear hk); (try clear hi); have p6 : 0 ≤ (x5_1 : Int) := of_decide_eq_true (by first | (with_reducible assumption) | assumption); have q6 : (x5_1 : Int) < ((x0_1.length : Int) : Int) := of_decide_eq_true (by first | (with_reducible assumption) | assumption); obtain ⟨go6, co6, eo6, gb6, gl6, cl6, HG6⟩ := Kd.R_form HO_0.out (by omega); (first | cases eo6 | (injection eo6 with ea_ en_ ec_; (first | subst ea_ | (injection ea_ with ea_; subst ea_)); subst ec_; clear en_)); have GB6 := Aside0.mk gb6; have GG6 := Aside0.mk HG6; clear gb6 gl6 HG6; have HMgo6 := Aside0.mk (show (P0_ go6 ∨ w.heap.size ≤ go6) from (HO_0.out.1 _ rfl)); obtain ⟨hx6_0, hf6_0⟩ := Kd.R_celln (⟨#[]⟩ : ByteArray) HO_0.out (x5_1 : Int) p6 q6; replace p6 := eq_true p6; replace q6 := eq_true q6; obtain ⟨hy9_, hz9_⟩ := Kd.R_celln (⟨#[]⟩ : ByteArray) HO_0.out (x5_1 : Int) (of_decide_eq_true (by first | (with_reducible assumption) | assumption)) (of_decide_eq_true (by first | (with_reducible assumption) | assumption)); have HP9 := Kd.R_putg HO_0.out (x5_1 : Int) t713) | ((with_reducible refine gate_store (t := 9) (p := 16) rfl ?_); refine store_event (t := 9) (p := 16) (v := ?vo_w10) (w1 := (w8.setCell ⟨go6, (x5_1 : Int).toNat, none⟩ (.string t713))) ?hg ?ho ?hn ?hr ?_; (case ho => rfl); (case hg => rfl); (case hn => rfl); (case hr => first | (go_simp; done) | (go_simp; rfl)); intro w10 hw; have hg : w8.grownBy w10 (some go6) := (by rw [hw]; exact HP9.2); have hp_ : Kd.R Kd.string 9 w10 w0.heap.size (fun k_ => (P0_ k_ ∨ w.heap.size ≤ k_)) (.slice (some ⟨go6, 0, none⟩) x0_1.length co7) y714 := (by rw [hw, Ny714.out]; exact HP9.1); clear HP9; have n0_ := Aside0.mk (hp_); have n1_ := Aside0.mk ((by rw [hw]; exact below_set (HB.out) GB6.out : Below w0.heap.size w0 w10)); have n2_ := Aside0.mk (Kept.of_grown (S := (fun k_ => P0_ k_)) hg (by repeat (first | (with_reducible first | exact HK.out | apply Kept.alloc | apply Kept.drewN | apply Kept.drew) | exact HK.out)) (fun k_ e_ => (HO_0.out.1 k_ e_))); clear HO_0; clear HB; clear HK; have HO_0 := n0_; have HB := n1_; have HK := n2_; clear n0_ n1_ n2_; clear hg hw hp_))
     go_roundg k1
     case measure => have := HK1.out; omega
     case rel => exact ⟨(y714), (wrap64 (x1_1 + 1)), (wrap64 (x5_1 + 1)), (by first | rfl | (simp; done) | (simp [*]; done) | (simp [bne]; done)), (by first | rfl | (simp; done) | (simp [*]; done) | (simp [bne]; done)), H', ⟨by have := HK1.out; omega⟩, ⟨by (with_reducible repeat (first | apply Kd.R_alloc | apply Kd.R_drewN | apply Kd.R_drew)); exact HO_0.out⟩, ⟨by repeat (first | (with_reducible first | exact HK.out | apply Kept.alloc | apply Kept.drewN | apply Kept.drew) | exact HK.out)⟩, ⟨by repeat (first | (with_reducible first | exact HB.out | apply below_alloc | apply pw_below_drewN | apply below_drew1) | exact HB.out)⟩⟩
    ·rw [if_neg c5] at H
     exact absurd H (by simp)
   ·rw [if_neg c3] at H
    have c3b0 : decide (x5_1 < (x0_1.length : Int)) = false := decide_eq_false c3
    clear c3
    simp only [Option.some.injEq, Prod.mk.injEq] at H
    obtain ⟨rfl, rfl⟩ := H
    obtain ⟨Ao11, co11, eo11⟩ := Kd.R_slice HO_0.out
    subst eo11
    go_wp2
    go_ret
    exact ⟨by first | rfl | (simp [errW_none, errW_some] <;> rfl) | (simp [*, errW_none, errW_some] <;> rfl), by (with_reducible repeat (first | apply Kd.R_alloc | apply Kd.R_drewN | apply Kd.R_drew)); exact HO_0.out, by repeat (first | (with_reducible first | exact HB.out | apply below_alloc | apply pw_below_drewN | apply below_drew1) | exact HB.out), by repeat (first | (with_reducible first | exact HK.out | apply Kept.alloc | apply Kept.drewN | apply Kept.drew) | exact HK.out)⟩
end Go.Proofs.Ytfajabboibcgpaa.PA
end
section
namespace Go.Proofs.Ytfajabboibcgpaa.PA
open Go.RowKit Go.Proofs.YtfajabboibcgpaaW.PrintWords Go.Proofs.YtfajabboibcgpaaW.PrintLast Go.Proofs.YtfajabboibcgpaaW.PrintMore
attribute [local go_sem] max2_int min2_int max_two min_two max_three min_three max_four min_four   -- for this text's walks alone
set_option linter.unusedVariables false
set_option linter.unusedSimpArgs false
def laws_heldStringS.l0 : Nat → List ByteArray → Int → Int → Option (Int)
 | 0, _, _, _ => none
 | k + 1, x0, x1, x5 => if x5 < (x0.length : Int) then (if 0 ≤ x5 then ((laws_markText.f k x1).bind fun t716 => (if (rdOf ByteArray.empty x0 x5).toList = t716.toList then (laws_heldStringS.l0 k x0 (wrap64 (x1 + 1)) (wrap64 (x5 + 1))) else (some (-1)))) else (none)) else (some x1)
def laws_heldStringS.f (k : Nat) (l0 : List ByteArray) (a1 : Int) : Option (Int) := laws_heldStringS.l0 k l0 a1 0
set_option maxHeartbeats 8000000 in
set_option maxRecDepth 100000 in
theorem laws_heldStringS.calls (k : Nat) (A0 : Option Addr) (c0 : Nat) (l0 : List ByteArray) (a1 : Int) (r : Int) (w : World) (hr0 : Kd.C Kd.string w A0 l0.length l0) (hc0 : l0.length ≤ c0) (h : laws_heldStringS.f k l0 a1 = some r) :
  Calls Try.prog 69 #[.slice A0 l0.length c0, .int .i64 a1] w fun e w' => e = .returned (.int .i64 r) ∧ Below w.heap.size w w' := by
 have HR0 := Aside0.mk hr0
 have HC0 := Aside0.mk hc0
 clear hr0 hc0
 have HB := Aside0.mk (Below.refl w.heap.size w)
 have H : (laws_heldStringS.l0 k l0 a1 0) = some r := h
 clear h
 have H' := Aside0.mk H
 clear H
 go_enter Try.func69, Try.ntmps69
 go_wp2
 go_loopg [1, 5] k (fun kq v1 v5 w' => ∃ (x1_1 : Int) (x5_1 : Int), v1 = .int .i64 x1_1 ∧ v5 = .int .i64 x5_1 ∧ Aside0 (laws_heldStringS.l0 kq l0 x1_1 x5_1 = some r) ∧ Aside0 (kq ≤ k) ∧ Aside0 (Below w.heap.size w w'))
 case atStart => exact ⟨(a1), (0), (by first | rfl | (simp; done) | (simp [*]; done) | (simp [bne]; done)), (by first | rfl | (simp; done) | (simp [*]; done) | (simp [bne]; done)), H', ⟨Nat.le_refl _⟩, ⟨by repeat (first | (with_reducible first | exact HB.out | apply below_alloc | apply pw_below_drewN | apply below_drew1) | exact HB.out)⟩⟩
 case round =>
  clear H'
  try clear p2
  obtain ⟨x1_1, x5_1, rfl, rfl, HA, HK1, HB⟩ := hrel
  cases gk with
  | zero => exact absurd HA.out (by simp [laws_heldStringS.l0])
  | succ k1 =>
   have H := HA.out
   clear HA
   simp only [laws_heldStringS.l0] at H
   by_cases c3 : x5_1 < (l0.length : Int)
   ·rw [if_pos c3] at H
    have c3b0 : decide (x5_1 < (l0.length : Int)) = true := decide_eq_true c3
    clear c3
    by_cases c4 : 0 ≤ x5_1
    ·rw [if_pos c4] at H
     have c4b0 : decide (0 ≤ x5_1) = true := decide_eq_true c4
     clear c4
     replace H := Option.bind_eq_some_iff.mp H
     obtain ⟨t716, A50, H⟩ := H
     replace H : (if (rdOf ByteArray.empty l0 x5_1).toList = t716.toList then (laws_heldStringS.l0 k1 l0 (wrap64 (x1_1 + 1)) (wrap64 (x5_1 + 1))) else (some (-1))) = some r := H
     have A5 := Aside0.mk A50
     clear A50
     by_cases c6 : (rdOf ByteArray.empty l0 x5_1).toList = t716.toList
     ·rw [if_pos c6] at H
      have c6b0 : ((rdOf ByteArray.empty l0 x5_1).toList == t716.toList) = true := beq_iff_eq.mpr c6
      have c6b1 : ((rdOf ByteArray.empty l0 x5_1).toList != t716.toList) = false := bne_eq_false_iff_eq.mpr c6
      clear c6
      have H' := Aside0.mk H
      clear H
      try go_wp2
      have n0_ := Aside0.mk (below_drew1 HB.out)
      clear HB
      have HB := n0_
      clear n0_
      have p715 : 0 ≤ (x5_1 : Int) := of_decide_eq_true (by first | (with_reducible assumption) | assumption)
      have q715 : x5_1 < (l0.length : Int) := of_decide_eq_true (by first | (with_reducible assumption) | assumption)
      obtain ⟨ad715, e715, hx715_0⟩ := Kd.at_string HR0.out x5_1 p715 q715
      have hw715_0 := hx715_0
      cases e715
      replace hx715_0 := (HB.out.cell (World.block_lt_of_cell? w _ hx715_0)).trans hx715_0
      replace p715 := eq_true p715
      replace q715 := eq_true q715
      refine start_ (n := 7) (S := fun w' => w'.cell? (ad715.add (x5_1).toNat) = some (.string (rdOf ByteArray.empty l0 x5_1))) (ds := []) #[false, false, false, false, false, false, false] (by kernel_rfl) rfl rfl (((HB.out.cell (World.block_lt_of_cell? w _ hw715_0)).trans hw715_0)) (fun hHeld => ?_)
      generalize wr.drew = w7 at HB hx715_0 hHeld ⊢
      refine pure_ (i := 0) (N := some 12) (v := ?_) (a' := ?_) #[true, false, false, false, false, false, false] rfl rfl (by kernel_rfl) (fun _ _ _ h => h) (Or.inl ⟨by rfl, ?_⟩) ?_ ?_
      rotate_left
      ·intro w'
       go_simp
       with_reducible rfl
      rotate_left
      ·simp only [Act.put, List.setIfInBounds_toArray, List.set_cons_zero, List.set_cons_succ, i64_w, i32_w]
       rfl
      refine pure_ (i := 1) (N := some 13) (v := ?_) (a' := ?_) #[true, true, false, false, false, false, false] rfl rfl (by kernel_rfl) (fun _ _ _ h => h) (Or.inl ⟨by rfl, ?_⟩) ?_ ?_
      rotate_left
      ·intro w'
       go_simp
       with_reducible rfl
      rotate_left
      ·simp only [Act.put, List.setIfInBounds_toArray, List.set_cons_zero, List.set_cons_succ, i64_w, i32_w]
       rfl
      refine pure_ (i := 2) (N := some 14) (v := ?_) (a' := ?_) #[true, true, true, false, false, false, false] rfl rfl (by kernel_rfl) (fun _ _ _ h => h) (Or.inl ⟨by rfl, ?_⟩) ?_ ?_
      rotate_left
      ·intro w'
       go_simp
       with_reducible rfl
      rotate_left
      ·simp only [Act.put, List.setIfInBounds_toArray, List.set_cons_zero, List.set_cons_succ, i64_w, i32_w]
       rfl
      refine pure_ (i := 4) (N := some 16) (v := ?_) (a' := ?_) #[true, true, true, false, true, false, false] rfl rfl (by kernel_rfl) (fun _ _ _ h => h) (Or.inl ⟨by rfl, ?_⟩) ?_ ?_
      rotate_left
      ·intro w'
       go_simp
       with_reducible rfl
      rotate_left
      ·simp only [Act.put, List.setIfInBounds_toArray, List.set_cons_zero, List.set_cons_succ, i64_w, i32_w]
       rfl
      refine take_ (i := 3) (N := some 15) (v := ?_) (a' := ?_) #[true, true, true, true, true, false, false] rfl rfl (by kernel_rfl) (fun _ _ _ h => h) (Or.inl ⟨by rfl, ?_⟩) hHeld ?_ ?_
      rotate_left
      ·intro w' s0
       go_simp
       with_reducible rfl
      rotate_left
      ·simp only [Act.put, List.setIfInBounds_toArray, List.set_cons_zero, List.set_cons_succ, i64_w, i32_w]
       rfl
      refine one_ (i := 5) (N := some 17) #[true, true, true, true, true, true, false] rfl rfl (by kernel_rfl) (by decide) (fun K hK => ?_)
      refine goes_ Try.func154 (by kernel_rfl) rfl #[.int .i64 x1_1] (by rfl) rfl rfl (by (try simp only [List.map_toArray, List.map_cons, List.map_nil]); first | done | rfl | (simp only [List.length_drop, List.length_take]; rfl)) ?_
      with_reducible refine (laws_markText.calls k1 x1_1 t716 _ A5.out).mono ?_
      rintro e w8 ⟨rfl, hb⟩
      refine ⟨_, rfl, ?_⟩
      have n0_ := Aside0.mk (below_step (by repeat (first | (with_reducible first | exact HB.out | apply below_alloc | apply pw_below_drewN | apply below_drew1) | exact HB.out)) hb)
      clear HB
      have HB := n0_
      clear n0_
      (try clear hb)
      (try clear hb2)
      (try clear hk)
      (try clear hi)
      refine hK.out _ _ (((HB.out.cell (World.block_lt_of_cell? w _ hw715_0)).trans hw715_0)) (fun hHeld => ?_)
      clear hK K
      refine norm_ (a' := ?_) ?_ ?_
      rotate_left
      ·show Act.put _ (some 17) _ = _
       simp only [Act.put, List.setIfInBounds_toArray, List.set_cons_zero, List.set_cons_succ, i64_w, i32_w]
       rfl
      refine pure_ (i := 6) (N := some 18) (v := ?_) (a' := ?_) #[true, true, true, true, true, true, true] rfl rfl (by kernel_rfl) (fun _ _ _ h => h) (Or.inl ⟨by rfl, ?_⟩) ?_ ?_
      rotate_left
      ·intro w'
       go_simp
       with_reducible rfl
      rotate_left
      ·simp only [Act.put, List.setIfInBounds_toArray, List.set_cons_zero, List.set_cons_succ, i64_w, i32_w]
       rfl
      refine done_ (by kernel_rfl) ?_
      try go_wp2
      go_roundg k1
      case measure => have := HK1.out; omega
      case rel => exact ⟨(wrap64 (x1_1 + 1)), (wrap64 (x5_1 + 1)), (by first | rfl | (simp; done) | (simp [*]; done) | (simp [bne]; done)), (by first | rfl | (simp; done) | (simp [*]; done) | (simp [bne]; done)), H', ⟨by have := HK1.out; omega⟩, ⟨by repeat (first | (with_reducible first | exact HB.out | apply below_alloc | apply pw_below_drewN | apply below_drew1) | exact HB.out)⟩⟩
     ·rw [if_neg c6] at H
      have c6b0 : ((rdOf ByteArray.empty l0 x5_1).toList == t716.toList) = false := beq_eq_false_iff_ne.mpr c6
      have c6b1 : ((rdOf ByteArray.empty l0 x5_1).toList != t716.toList) = true := bne_iff_ne.mpr c6
      obtain rfl := Option.some.inj H
      try go_wp2
      have n0_ := Aside0.mk (below_drew1 HB.out)
      clear HB
      have HB := n0_
      clear n0_
      have p715 : 0 ≤ (x5_1 : Int) := of_decide_eq_true (by first | (with_reducible assumption) | assumption)
      have q715 : x5_1 < (l0.length : Int) := of_decide_eq_true (by first | (with_reducible assumption) | assumption)
      obtain ⟨ad715, e715, hx715_0⟩ := Kd.at_string HR0.out x5_1 p715 q715
      have hw715_0 := hx715_0
      cases e715
      replace hx715_0 := (HB.out.cell (World.block_lt_of_cell? w _ hx715_0)).trans hx715_0
      replace p715 := eq_true p715
      replace q715 := eq_true q715
      refine start_ (n := 7) (S := fun w' => w'.cell? (ad715.add (x5_1).toNat) = some (.string (rdOf ByteArray.empty l0 x5_1))) (ds := []) #[false, false, false, false, false, false, false] (by kernel_rfl) rfl rfl (((HB.out.cell (World.block_lt_of_cell? w _ hw715_0)).trans hw715_0)) (fun hHeld => ?_)
      generalize wr.drew = w9 at HB hx715_0 hHeld ⊢
      refine pure_ (i := 0) (N := some 12) (v := ?_) (a' := ?_) #[true, false, false, false, false, false, false] rfl rfl (by kernel_rfl) (fun _ _ _ h => h) (Or.inl ⟨by rfl, ?_⟩) ?_ ?_
      rotate_left
      ·intro w'
       go_simp
       with_reducible rfl
      rotate_left
      ·simp only [Act.put, List.setIfInBounds_toArray, List.set_cons_zero, List.set_cons_succ, i64_w, i32_w]
       rfl
      refine pure_ (i := 1) (N := some 13) (v := ?_) (a' := ?_) #[true, true, false, false, false, false, false] rfl rfl (by kernel_rfl) (fun _ _ _ h => h) (Or.inl ⟨by rfl, ?_⟩) ?_ ?_
      rotate_left
      ·intro w'
       go_simp
       with_reducible rfl
      rotate_left
      ·simp only [Act.put, List.setIfInBounds_toArray, List.set_cons_zero, List.set_cons_succ, i64_w, i32_w]
       rfl
      refine pure_ (i := 2) (N := some 14) (v := ?_) (a' := ?_) #[true, true, true, false, false, false, false] rfl rfl (by kernel_rfl) (fun _ _ _ h => h) (Or.inl ⟨by rfl, ?_⟩) ?_ ?_
      rotate_left
      ·intro w'
       go_simp
       with_reducible rfl
      rotate_left
      ·simp only [Act.put, List.setIfInBounds_toArray, List.set_cons_zero, List.set_cons_succ, i64_w, i32_w]
       rfl
      refine pure_ (i := 4) (N := some 16) (v := ?_) (a' := ?_) #[true, true, true, false, true, false, false] rfl rfl (by kernel_rfl) (fun _ _ _ h => h) (Or.inl ⟨by rfl, ?_⟩) ?_ ?_
      rotate_left
      ·intro w'
       go_simp
       with_reducible rfl
      rotate_left
      ·simp only [Act.put, List.setIfInBounds_toArray, List.set_cons_zero, List.set_cons_succ, i64_w, i32_w]
       rfl
      refine take_ (i := 3) (N := some 15) (v := ?_) (a' := ?_) #[true, true, true, true, true, false, false] rfl rfl (by kernel_rfl) (fun _ _ _ h => h) (Or.inl ⟨by rfl, ?_⟩) hHeld ?_ ?_
      rotate_left
      ·intro w' s0
       go_simp
       with_reducible rfl
      rotate_left
      ·simp only [Act.put, List.setIfInBounds_toArray, List.set_cons_zero, List.set_cons_succ, i64_w, i32_w]
       rfl
      refine one_ (i := 5) (N := some 17) #[true, true, true, true, true, true, false] rfl rfl (by kernel_rfl) (by decide) (fun K hK => ?_)
      refine goes_ Try.func154 (by kernel_rfl) rfl #[.int .i64 x1_1] (by rfl) rfl rfl (by (try simp only [List.map_toArray, List.map_cons, List.map_nil]); first | done | rfl | (simp only [List.length_drop, List.length_take]; rfl)) ?_
      with_reducible refine (laws_markText.calls k1 x1_1 t716 _ A5.out).mono ?_
      rintro e w10 ⟨rfl, hb⟩
      refine ⟨_, rfl, ?_⟩
      have n0_ := Aside0.mk (below_step (by repeat (first | (with_reducible first | exact HB.out | apply below_alloc | apply pw_below_drewN | apply below_drew1) | exact HB.out)) hb)
      clear HB
      have HB := n0_
      clear n0_
      (try clear hb)
      (try clear hb2)
      (try clear hk)
      (try clear hi)
      refine hK.out _ _ (((HB.out.cell (World.block_lt_of_cell? w _ hw715_0)).trans hw715_0)) (fun hHeld => ?_)
      clear hK K
      refine norm_ (a' := ?_) ?_ ?_
      rotate_left
      ·show Act.put _ (some 17) _ = _
       simp only [Act.put, List.setIfInBounds_toArray, List.set_cons_zero, List.set_cons_succ, i64_w, i32_w]
       rfl
      refine pure_ (i := 6) (N := some 18) (v := ?_) (a' := ?_) #[true, true, true, true, true, true, true] rfl rfl (by kernel_rfl) (fun _ _ _ h => h) (Or.inl ⟨by rfl, ?_⟩) ?_ ?_
      rotate_left
      ·intro w'
       go_simp
       with_reducible rfl
      rotate_left
      ·simp only [Act.put, List.setIfInBounds_toArray, List.set_cons_zero, List.set_cons_succ, i64_w, i32_w]
       rfl
      refine done_ (by kernel_rfl) ?_
      try go_wp2
      go_ret
      exact ⟨by first | rfl | (simp [errW_none, errW_some] <;> rfl) | (simp [*, errW_none, errW_some] <;> rfl), by repeat (first | (with_reducible first | exact HB.out | apply below_alloc | apply pw_below_drewN | apply below_drew1) | exact HB.out)⟩
    ·rw [if_neg c4] at H
     exact absurd H (by simp)
   ·rw [if_neg c3] at H
    have c3b0 : decide (x5_1 < (l0.length : Int)) = false := decide_eq_false c3
    clear c3
    obtain rfl := Option.some.inj H
    go_wp2
    go_ret
    exact ⟨by first | rfl | (simp [errW_none, errW_some] <;> rfl) | (simp [*, errW_none, errW_some] <;> rfl), by repeat (first | (with_reducible first | exact HB.out | apply below_alloc | apply pw_below_drewN | apply below_drew1) | exact HB.out)⟩
end Go.Proofs.Ytfajabboibcgpaa.PA
end
section
namespace Go.Proofs.Ytfajabboibcgpaa.PA
open Go.RowKit Go.Proofs.YtfajabboibcgpaaW.PrintWords Go.Proofs.YtfajabboibcgpaaW.PrintLast Go.Proofs.YtfajabboibcgpaaW.PrintMore
attribute [local go_sem] max2_int min2_int max_two min_two max_three min_three max_four min_four   -- for this text's walks alone
set_option linter.unusedVariables false
set_option linter.unusedSimpArgs false
mutual
def laws_FnExactShowSlot.j0 : Nat → List (S113) → Int → List ByteArray → Bool → List (S72) → List ByteArray → Bool → Bool → ByteArray → ByteArray → ByteArray → ByteArray → Bool → ByteArray → ByteArray → ByteArray → ByteArray → Bool → Option (Bool)
 | 0, _, _, _, _, _, _, _, _, _, _, _, _, _, _, _, _, _, _ => none
 | k + 1, x0, x1, x7, x8, x9, x11, x12, x55, x731000, x731001, x731002, x731003, x731004, x744000, x744001, x744002, x744003, x744004 => if x55 = true then (some false) else ((laws_toSlotS.f k x0).bind fun t746 => ((laws_eqSlotS.f k x9 t746).bind fun t749 => (if t749 = true then ((laws_markSlotS.f k x9 1).bind fun bt750 => (if bt750.1 < 0 then (laws_FnExactShowSlot.j1 k x0 x1 x7 x8 x11 true x731000 x731001 x731002 x731003 x731004) else ((laws_eqSlot.f x744000 x744001 x744002 x744003 x744004 x731000 x731001 x731002 x731003 x731004).bind fun t752 => (if t752 = true then ((laws_eqStringS.f k x11 x7).bind fun t753 => (if t753 = true then (laws_FnExactShowSlot.j1 k x0 x1 x7 x8 x11 (x12 != x8) x731000 x731001 x731002 x731003 x731004) else (laws_FnExactShowSlot.j1 k x0 x1 x7 x8 x11 true x731000 x731001 x731002 x731003 x731004))) else (laws_FnExactShowSlot.j1 k x0 x1 x7 x8 x11 true x731000 x731001 x731002 x731003 x731004))))) else (some false))))
def laws_FnExactShowSlot.j1 : Nat → List (S113) → Int → List ByteArray → Bool → List ByteArray → Bool → ByteArray → ByteArray → ByteArray → ByteArray → Bool → Option (Bool)
 | 0, _, _, _, _, _, _, _, _, _, _, _ => none
 | k + 1, x0, x1, x7, x8, x11, x82, x731000, x731001, x731002, x731003, x731004 => if x82 = true then (some false) else ((laws_markStringS.f k x11 1).bind fun bt754 => ((laws_heldStringS.f k bt754.2 1).bind fun t756 => (if t756 < 0 then (some false) else (if t756 = bt754.1 then ((laws_toSlotS.f k x0).bind fun t757 => ((impl_ShowSlot.f k t757 x1).bind fun bt760 => ((laws_eqSlot.f bt760.1 bt760.2.1 bt760.2.2.1 bt760.2.2.2.1 bt760.2.2.2.2.1 x731000 x731001 x731002 x731003 x731004).bind fun t770 => (if t770 = true then ((laws_eqStringS.f k bt760.2.2.2.2.2.1 x7).bind fun t771 => (if t771 = true then (laws_FnExactShowSlot.j2 k bt754.2 bt754.1 (bt760.2.2.2.2.2.2 != x8)) else (laws_FnExactShowSlot.j2 k bt754.2 bt754.1 true))) else (laws_FnExactShowSlot.j2 k bt754.2 bt754.1 true))))) else (some false)))))
def laws_FnExactShowSlot.j2 : Nat → List ByteArray → Int → Bool → Option (Bool)
 | 0, _, _, _ => none
 | k + 1, x11, x14, x116 => if x116 = true then (some false) else ((laws_heldStringS.f k x11 1).bind fun t772 => (if t772 < 0 then (some false) else (if t772 = x14 then (some true) else (some false))))
end
def laws_FnExactShowSlot.f (k : Nat) (l0 : List (S113)) (a1 : Int) : Option (Bool) := (laws_szSlotS.f k l0 1048576).bind fun t717 => (if t717 < 0 then (some true) else ((laws_toSlotS.f k l0).bind fun t718 => ((spec_ShowSlot.f k t718 a1).bind fun bt721 => ((laws_toSlotS.f k l0).bind fun t731 => ((impl_ShowSlot.f k t731 a1).bind fun bt734 => ((laws_eqSlot.f bt734.1 bt734.2.1 bt734.2.2.1 bt734.2.2.2.1 bt734.2.2.2.2.1 bt721.1 bt721.2.1 bt721.2.2.1 bt721.2.2.2.1 bt721.2.2.2.2.1).bind fun t744 => (if t744 = true then ((laws_eqStringS.f k bt734.2.2.2.2.2.1 bt721.2.2.2.2.2.1).bind fun t745 => (if t745 = true then (laws_FnExactShowSlot.j0 k l0 a1 bt721.2.2.2.2.2.1 bt721.2.2.2.2.2.2 t731 bt734.2.2.2.2.2.1 bt734.2.2.2.2.2.2 (bt734.2.2.2.2.2.2 != bt721.2.2.2.2.2.2) bt721.1 bt721.2.1 bt721.2.2.1 bt721.2.2.2.1 bt721.2.2.2.2.1 bt734.1 bt734.2.1 bt734.2.2.1 bt734.2.2.2.1 bt734.2.2.2.2.1) else (laws_FnExactShowSlot.j0 k l0 a1 bt721.2.2.2.2.2.1 bt721.2.2.2.2.2.2 t731 bt734.2.2.2.2.2.1 bt734.2.2.2.2.2.2 true bt721.1 bt721.2.1 bt721.2.2.1 bt721.2.2.2.1 bt721.2.2.2.2.1 bt734.1 bt734.2.1 bt734.2.2.1 bt734.2.2.2.1 bt734.2.2.2.2.1))) else (laws_FnExactShowSlot.j0 k l0 a1 bt721.2.2.2.2.2.1 bt721.2.2.2.2.2.2 t731 bt734.2.2.2.2.2.1 bt734.2.2.2.2.2.2 true bt721.1 bt721.2.1 bt721.2.2.1 bt721.2.2.2.1 bt721.2.2.2.2.1 bt734.1 bt734.2.1 bt734.2.2.1 bt734.2.2.2.1 bt734.2.2.2.2.1))))))))
set_option maxHeartbeats 8000000 in
set_option maxRecDepth 100000 in
theorem laws_FnExactShowSlot.calls (k : Nat) (A0 : Option Addr) (c0 : Nat) (l0 : List (S113)) (a1 : Int) (r : Bool) (w : World) (hr0 : Kd.C k113 w A0 l0.length l0) (hc0 : l0.length ≤ c0) (h : laws_FnExactShowSlot.f k l0 a1 = some r) :
  Calls Try.prog 12 #[.slice A0 l0.length c0, .int .i64 a1] w fun e w' => e = .returned (.bool r) ∧ Below w.heap.size w w' := by
 have hu72 := Try.underlying72
 have HR0 := Aside0.mk hr0
 have HC0 := Aside0.mk hc0
 clear hr0 hc0
 have HB := Aside0.mk (Below.refl w.heap.size w)
 have H : ((laws_szSlotS.f k l0 1048576).bind fun t717 => (if t717 < 0 then (some true) else ((laws_toSlotS.f k l0).bind fun t718 => ((spec_ShowSlot.f k t718 a1).bind fun bt721 => ((laws_toSlotS.f k l0).bind fun t731 => ((impl_ShowSlot.f k t731 a1).bind fun bt734 => ((laws_eqSlot.f bt734.1 bt734.2.1 bt734.2.2.1 bt734.2.2.2.1 bt734.2.2.2.2.1 bt721.1 bt721.2.1 bt721.2.2.1 bt721.2.2.2.1 bt721.2.2.2.2.1).bind fun t744 => (if t744 = true then ((laws_eqStringS.f k bt734.2.2.2.2.2.1 bt721.2.2.2.2.2.1).bind fun t745 => (if t745 = true then (laws_FnExactShowSlot.j0 k l0 a1 bt721.2.2.2.2.2.1 bt721.2.2.2.2.2.2 t731 bt734.2.2.2.2.2.1 bt734.2.2.2.2.2.2 (bt734.2.2.2.2.2.2 != bt721.2.2.2.2.2.2) bt721.1 bt721.2.1 bt721.2.2.1 bt721.2.2.2.1 bt721.2.2.2.2.1 bt734.1 bt734.2.1 bt734.2.2.1 bt734.2.2.2.1 bt734.2.2.2.2.1) else (laws_FnExactShowSlot.j0 k l0 a1 bt721.2.2.2.2.2.1 bt721.2.2.2.2.2.2 t731 bt734.2.2.2.2.2.1 bt734.2.2.2.2.2.2 true bt721.1 bt721.2.1 bt721.2.2.1 bt721.2.2.2.1 bt721.2.2.2.2.1 bt734.1 bt734.2.1 bt734.2.2.1 bt734.2.2.2.1 bt734.2.2.2.2.1))) else (laws_FnExactShowSlot.j0 k l0 a1 bt721.2.2.2.2.2.1 bt721.2.2.2.2.2.2 t731 bt734.2.2.2.2.2.1 bt734.2.2.2.2.2.2 true bt721.1 bt721.2.1 bt721.2.2.1 bt721.2.2.2.1 bt721.2.2.2.2.1 bt734.1 bt734.2.1 bt734.2.2.1 bt734.2.2.2.1 bt734.2.2.2.2.1))))))))) = some r := h
 clear h
 replace H := Option.bind_eq_some_iff.mp H
 obtain ⟨t717, A30, H⟩ := H
 replace H : (if t717 < 0 then (some true) else ((laws_toSlotS.f k l0).bind fun t718 => ((spec_ShowSlot.f k t718 a1).bind fun bt721 => ((laws_toSlotS.f k l0).bind fun t731 => ((impl_ShowSlot.f k t731 a1).bind fun bt734 => ((laws_eqSlot.f bt734.1 bt734.2.1 bt734.2.2.1 bt734.2.2.2.1 bt734.2.2.2.2.1 bt721.1 bt721.2.1 bt721.2.2.1 bt721.2.2.2.1 bt721.2.2.2.2.1).bind fun t744 => (if t744 = true then ((laws_eqStringS.f k bt734.2.2.2.2.2.1 bt721.2.2.2.2.2.1).bind fun t745 => (if t745 = true then (laws_FnExactShowSlot.j0 k l0 a1 bt721.2.2.2.2.2.1 bt721.2.2.2.2.2.2 t731 bt734.2.2.2.2.2.1 bt734.2.2.2.2.2.2 (bt734.2.2.2.2.2.2 != bt721.2.2.2.2.2.2) bt721.1 bt721.2.1 bt721.2.2.1 bt721.2.2.2.1 bt721.2.2.2.2.1 bt734.1 bt734.2.1 bt734.2.2.1 bt734.2.2.2.1 bt734.2.2.2.2.1) else (laws_FnExactShowSlot.j0 k l0 a1 bt721.2.2.2.2.2.1 bt721.2.2.2.2.2.2 t731 bt734.2.2.2.2.2.1 bt734.2.2.2.2.2.2 true bt721.1 bt721.2.1 bt721.2.2.1 bt721.2.2.2.1 bt721.2.2.2.2.1 bt734.1 bt734.2.1 bt734.2.2.1 bt734.2.2.2.1 bt734.2.2.2.2.1))) else (laws_FnExactShowSlot.j0 k l0 a1 bt721.2.2.2.2.2.1 bt721.2.2.2.2.2.2 t731 bt734.2.2.2.2.2.1 bt734.2.2.2.2.2.2 true bt721.1 bt721.2.1 bt721.2.2.1 bt721.2.2.2.1 bt721.2.2.2.2.1 bt734.1 bt734.2.1 bt734.2.2.1 bt734.2.2.2.1 bt734.2.2.2.2.1)))))))) = some r := H
 have A3 := Aside0.mk A30
 clear A30
 by_cases c4 : t717 < 0
 ·rw [if_pos c4] at H
  have c4b0 : decide (t717 < 0) = true := decide_eq_true c4
  clear c4
  obtain rfl := Option.some.inj H
  go_enter Try.func12, Try.ntmps12
  go_wp2_with (first | ((with_reducible refine gate_callee (f := 15) rfl ?_); refine goesL_ (some 21) rfl rfl Try.func15 (by kernel_rfl) rfl #[.slice A0 l0.length c0, .int .i64 1048576] rfl (by (try simp only [List.map_toArray, List.map_cons, List.map_nil]); first | done | rfl | (simp only [List.length_drop, List.length_take]; rfl)) ?_; (with_reducible refine (laws_szSlotS.calls k _ _ l0 1048576 t717 _ ?side1 ?side2 A3.out).mono ?_); (case side1 => repeat (first | exact HR0.out | (with_reducible refine Kd.C_alloc ?_ _) | (with_reducible refine Kd.C_drewN ?_ _) | (with_reducible refine Kd.C_drew ?_))); (case side2 => exact HC0.out); rintro e w5 ⟨rfl, hb⟩; refine ⟨_, rfl, ?_⟩; have n0_ := Aside0.mk (below_step (by repeat (first | (with_reducible first | exact HB.out | apply below_alloc | apply pw_below_drewN | apply below_drew1) | exact HB.out)) hb); clear HB; have HB := n0_; clear n0_; (try clear hb); (try clear hb2); (try clear hk); (try clear hi)))
  go_ret
  exact ⟨by first | rfl | (simp [errW_none, errW_some] <;> rfl) | (simp [*, errW_none, errW_some] <;> rfl), by repeat (first | (with_reducible first | exact HB.out | apply below_alloc | apply pw_below_drewN | apply below_drew1) | exact HB.out)⟩
 ·rw [if_neg c4] at H
  have c4b0 : decide (t717 < 0) = false := decide_eq_false c4
  clear c4
  replace H := Option.bind_eq_some_iff.mp H
  obtain ⟨t718, A60, H⟩ := H
  replace H : ((spec_ShowSlot.f k t718 a1).bind fun bt721 => ((laws_toSlotS.f k l0).bind fun t731 => ((impl_ShowSlot.f k t731 a1).bind fun bt734 => ((laws_eqSlot.f bt734.1 bt734.2.1 bt734.2.2.1 bt734.2.2.2.1 bt734.2.2.2.2.1 bt721.1 bt721.2.1 bt721.2.2.1 bt721.2.2.2.1 bt721.2.2.2.2.1).bind fun t744 => (if t744 = true then ((laws_eqStringS.f k bt734.2.2.2.2.2.1 bt721.2.2.2.2.2.1).bind fun t745 => (if t745 = true then (laws_FnExactShowSlot.j0 k l0 a1 bt721.2.2.2.2.2.1 bt721.2.2.2.2.2.2 t731 bt734.2.2.2.2.2.1 bt734.2.2.2.2.2.2 (bt734.2.2.2.2.2.2 != bt721.2.2.2.2.2.2) bt721.1 bt721.2.1 bt721.2.2.1 bt721.2.2.2.1 bt721.2.2.2.2.1 bt734.1 bt734.2.1 bt734.2.2.1 bt734.2.2.2.1 bt734.2.2.2.2.1) else (laws_FnExactShowSlot.j0 k l0 a1 bt721.2.2.2.2.2.1 bt721.2.2.2.2.2.2 t731 bt734.2.2.2.2.2.1 bt734.2.2.2.2.2.2 true bt721.1 bt721.2.1 bt721.2.2.1 bt721.2.2.2.1 bt721.2.2.2.2.1 bt734.1 bt734.2.1 bt734.2.2.1 bt734.2.2.2.1 bt734.2.2.2.2.1))) else (laws_FnExactShowSlot.j0 k l0 a1 bt721.2.2.2.2.2.1 bt721.2.2.2.2.2.2 t731 bt734.2.2.2.2.2.1 bt734.2.2.2.2.2.2 true bt721.1 bt721.2.1 bt721.2.2.1 bt721.2.2.2.1 bt721.2.2.2.2.1 bt734.1 bt734.2.1 bt734.2.2.1 bt734.2.2.2.1 bt734.2.2.2.2.1)))))) = some r := H
  have A6 := Aside0.mk A60
  clear A60
  replace H := Option.bind_eq_some_iff.mp H
  obtain ⟨⟨t721, t722, t723, t724, t725, t726, t729⟩, A70, H⟩ := H
  replace H : ((laws_toSlotS.f k l0).bind fun t731 => ((impl_ShowSlot.f k t731 a1).bind fun bt734 => ((laws_eqSlot.f bt734.1 bt734.2.1 bt734.2.2.1 bt734.2.2.2.1 bt734.2.2.2.2.1 t721 t722 t723 t724 t725).bind fun t744 => (if t744 = true then ((laws_eqStringS.f k bt734.2.2.2.2.2.1 t726).bind fun t745 => (if t745 = true then (laws_FnExactShowSlot.j0 k l0 a1 t726 t729 t731 bt734.2.2.2.2.2.1 bt734.2.2.2.2.2.2 (bt734.2.2.2.2.2.2 != t729) t721 t722 t723 t724 t725 bt734.1 bt734.2.1 bt734.2.2.1 bt734.2.2.2.1 bt734.2.2.2.2.1) else (laws_FnExactShowSlot.j0 k l0 a1 t726 t729 t731 bt734.2.2.2.2.2.1 bt734.2.2.2.2.2.2 true t721 t722 t723 t724 t725 bt734.1 bt734.2.1 bt734.2.2.1 bt734.2.2.2.1 bt734.2.2.2.2.1))) else (laws_FnExactShowSlot.j0 k l0 a1 t726 t729 t731 bt734.2.2.2.2.2.1 bt734.2.2.2.2.2.2 true t721 t722 t723 t724 t725 bt734.1 bt734.2.1 bt734.2.2.1 bt734.2.2.2.1 bt734.2.2.2.2.1))))) = some r := H
  have A7 := Aside0.mk A70
  clear A70
  replace H := Option.bind_eq_some_iff.mp H
  obtain ⟨t731, A80, H⟩ := H
  replace H : ((impl_ShowSlot.f k t731 a1).bind fun bt734 => ((laws_eqSlot.f bt734.1 bt734.2.1 bt734.2.2.1 bt734.2.2.2.1 bt734.2.2.2.2.1 t721 t722 t723 t724 t725).bind fun t744 => (if t744 = true then ((laws_eqStringS.f k bt734.2.2.2.2.2.1 t726).bind fun t745 => (if t745 = true then (laws_FnExactShowSlot.j0 k l0 a1 t726 t729 t731 bt734.2.2.2.2.2.1 bt734.2.2.2.2.2.2 (bt734.2.2.2.2.2.2 != t729) t721 t722 t723 t724 t725 bt734.1 bt734.2.1 bt734.2.2.1 bt734.2.2.2.1 bt734.2.2.2.2.1) else (laws_FnExactShowSlot.j0 k l0 a1 t726 t729 t731 bt734.2.2.2.2.2.1 bt734.2.2.2.2.2.2 true t721 t722 t723 t724 t725 bt734.1 bt734.2.1 bt734.2.2.1 bt734.2.2.2.1 bt734.2.2.2.2.1))) else (laws_FnExactShowSlot.j0 k l0 a1 t726 t729 t731 bt734.2.2.2.2.2.1 bt734.2.2.2.2.2.2 true t721 t722 t723 t724 t725 bt734.1 bt734.2.1 bt734.2.2.1 bt734.2.2.2.1 bt734.2.2.2.2.1)))) = some r := H
  have A8 := Aside0.mk A80
  clear A80
  replace H := Option.bind_eq_some_iff.mp H
  obtain ⟨⟨t734, t735, t736, t737, t738, t739, t742⟩, A90, H⟩ := H
  replace H : ((laws_eqSlot.f t734 t735 t736 t737 t738 t721 t722 t723 t724 t725).bind fun t744 => (if t744 = true then ((laws_eqStringS.f k t739 t726).bind fun t745 => (if t745 = true then (laws_FnExactShowSlot.j0 k l0 a1 t726 t729 t731 t739 t742 (t742 != t729) t721 t722 t723 t724 t725 t734 t735 t736 t737 t738) else (laws_FnExactShowSlot.j0 k l0 a1 t726 t729 t731 t739 t742 true t721 t722 t723 t724 t725 t734 t735 t736 t737 t738))) else (laws_FnExactShowSlot.j0 k l0 a1 t726 t729 t731 t739 t742 true t721 t722 t723 t724 t725 t734 t735 t736 t737 t738))) = some r := H
  have A9 := Aside0.mk A90
  clear A90
  have HC10 := Aside0.mk H
  clear H
  go_enter Try.func12, Try.ntmps12
  go_upto_region 8 with (first | ((with_reducible refine gate_callee (f := 15) rfl ?_); refine goesL_ (some 21) rfl rfl Try.func15 (by kernel_rfl) rfl #[.slice A0 l0.length c0, .int .i64 1048576] rfl (by (try simp only [List.map_toArray, List.map_cons, List.map_nil]); first | done | rfl | (simp only [List.length_drop, List.length_take]; rfl)) ?_; (with_reducible refine (laws_szSlotS.calls k _ _ l0 1048576 t717 _ ?side1 ?side2 A3.out).mono ?_); (case side1 => repeat (first | exact HR0.out | (with_reducible refine Kd.C_alloc ?_ _) | (with_reducible refine Kd.C_drewN ?_ _) | (with_reducible refine Kd.C_drew ?_))); (case side2 => exact HC0.out); rintro e w11 ⟨rfl, hb⟩; refine ⟨_, rfl, ?_⟩; have n0_ := Aside0.mk (below_step (by repeat (first | (with_reducible first | exact HB.out | apply below_alloc | apply pw_below_drewN | apply below_drew1) | exact HB.out)) hb); clear HB; have HB := n0_; clear n0_; (try clear hb); (try clear hb2); (try clear hk); (try clear hi)) | ((with_reducible refine gate_callee (f := 17) rfl ?_); refine goesL_ (some 26) rfl rfl Try.func17 (by kernel_rfl) rfl #[.slice A0 l0.length c0] rfl (by (try simp only [List.map_toArray, List.map_cons, List.map_nil]); first | done | rfl | (simp only [List.length_drop, List.length_take]; rfl)) ?_; (with_reducible refine (laws_toSlotS.calls k _ _ l0 t718 _ ?side1 ?side2 A6.out).mono ?_); (case side1 => repeat (first | exact (Kd.C_below HR0.out HB.out) | (with_reducible refine Kd.C_alloc ?_ _) | (with_reducible refine Kd.C_drewN ?_ _) | (with_reducible refine Kd.C_drew ?_))); (case side2 => exact HC0.out); rintro e w12 ⟨v719, rfl, ho0, hb⟩; refine ⟨_, rfl, ?_⟩; have n0_ := Aside0.mk (Kd.R_lower ho0 (below_size (by repeat (first | (with_reducible first | exact HB.out | apply below_alloc | apply pw_below_drewN | apply below_drew1) | exact HB.out)))); have n1_ := Aside0.mk (below_step (by repeat (first | (with_reducible first | exact HB.out | apply below_alloc | apply pw_below_drewN | apply below_drew1) | exact HB.out)) hb); clear HB; have HO720 := n0_; have HB := n1_; clear n0_ n1_; (try clear hb); (try clear hb2); (try clear hk); (try clear hi); (try clear ho0); obtain ⟨Ao13, co13, eo13⟩ := Kd.R_slice HO720.out; subst eo13) | ((with_reducible refine gate_callee (f := 65) rfl ?_); refine goesL_ (some 28) rfl rfl Try.func65 (by kernel_rfl) rfl #[.slice Ao13 t718.length co13, .int .i64 a1] rfl (by (try simp only [List.map_toArray, List.map_cons, List.map_nil]); first | done | rfl | (simp only [List.length_drop, List.length_take]; rfl)) ?_; (with_reducible refine (spec_ShowSlot.calls k _ _ t718 a1 t721 t722 t723 t724 t725 t726 t729 _ ?side1 ?side2 A7.out).mono ?_); (case side1 => repeat (first | exact (Kd.R_reads' HO720.out).2.2 | (with_reducible refine Kd.C_alloc ?_ _) | (with_reducible refine Kd.C_drewN ?_ _) | (with_reducible refine Kd.C_drew ?_))); (case side2 => exact (Kd.R_reads' HO720.out).2.1); rintro e w14 ⟨v727, rfl, ho0, hb⟩; refine ⟨_, rfl, ?_⟩; have n0_ := Aside0.mk (Kd.R_below (by (with_reducible repeat (first | apply Kd.R_alloc | apply Kd.R_drewN | apply Kd.R_drew)); exact HO720.out) hb); have n1_ := Aside0.mk (Kd.R_lower ho0 (below_size (by repeat (first | (with_reducible first | exact HB.out | apply below_alloc | apply pw_below_drewN | apply below_drew1) | exact HB.out)))); have n2_ := Aside0.mk (below_step (by repeat (first | (with_reducible first | exact HB.out | apply below_alloc | apply pw_below_drewN | apply below_drew1) | exact HB.out)) hb); clear HO720; clear HB; have HO720 := n0_; have HO728 := n1_; have HB := n2_; clear n0_ n1_ n2_; (try clear hb); (try clear hb2); (try clear hk); (try clear hi); (try clear ho0)) | ((with_reducible refine gate_dst (N := 6) rfl ?_); refine box_event ?hg (N := 6) ?hd (cs := #[.string (⟨#[]⟩ : ByteArray), .string (⟨#[]⟩ : ByteArray), .string (⟨#[]⟩ : ByteArray), .string (⟨#[]⟩ : ByteArray), .bool false]) (t := 72) ?hr ?_; (case hd => rfl); (case hg => rfl); (case hr => first | (go_simp; done) | (go_simp; rfl)); intro gb730 hg w15 hbox hb; have n0_ := Aside0.mk (Kd.R_below (Kd.R_elderB (by (with_reducible repeat (first | apply Kd.R_alloc | apply Kd.R_drewN | apply Kd.R_drew)); exact HO720.out) gb730 (Nat.le_of_eq hg.symm)) hb); have n1_ := Aside0.mk (Kd.R_below (by (with_reducible repeat (first | apply Kd.R_alloc | apply Kd.R_drewN | apply Kd.R_drew)); exact HO728.out) hb); have n2_ := Aside0.mk (below_step (by repeat (first | (with_reducible first | exact HB.out | apply below_alloc | apply pw_below_drewN | apply below_drew1) | exact HB.out)) hb); have n3_ := Aside0.mk (hbox); have n4_ := Aside0.mk ((by rw [hg]; exact (below_size (by repeat (first | (with_reducible first | exact HB.out | apply below_alloc | apply pw_below_drewN | apply below_drew1) | exact HB.out))) : w.heap.size ≤ gb730)); have n5_ := Aside0.mk ((by rw [hg]; exact (below_size (by repeat (first | (with_reducible first | exact HB.out | apply below_alloc | apply pw_below_drewN | apply below_drew1) | exact HB.out))) : w.heap.size ≤ gb730)); clear HO720; clear HO728; clear HB; have HO720 := n0_; have HO728 := n1_; have HB := n2_; have BK730 := n3_; have GW730 := n4_; have GE730 := n5_; clear n0_ n1_ n2_ n3_ n4_ n5_; clear hb hbox hg; have hcz16_0 : w15.cell? ⟨gb730, 0, none⟩ = some (.string (⟨#[]⟩ : ByteArray)) := (blk_cell BK730.out 0).trans rfl; have hcz16_1 : w15.cell? ⟨gb730, 1, none⟩ = some (.string (⟨#[]⟩ : ByteArray)) := (blk_cell BK730.out 1).trans rfl; have hcz16_2 : w15.cell? ⟨gb730, 2, none⟩ = some (.string (⟨#[]⟩ : ByteArray)) := (blk_cell BK730.out 2).trans rfl; have hcz16_3 : w15.cell? ⟨gb730, 3, none⟩ = some (.string (⟨#[]⟩ : ByteArray)) := (blk_cell BK730.out 3).trans rfl; have hcz16_4 : w15.cell? ⟨gb730, 4, none⟩ = some (.bool false) := (blk_cell BK730.out 4).trans rfl; have hfz16_0 := blk_frozen BK730.out 0; have hfz16_1 := blk_frozen BK730.out 1; have hfz16_2 := blk_frozen BK730.out 2; have hfz16_3 := blk_frozen BK730.out 3; have hfz16_4 := blk_frozen BK730.out 4) | ((with_reducible refine gate_callee (f := 17) rfl ?_); refine goesL_ (some 33) rfl rfl Try.func17 (by kernel_rfl) rfl #[.slice A0 l0.length c0] rfl (by (try simp only [List.map_toArray, List.map_cons, List.map_nil]); first | done | rfl | (simp only [List.length_drop, List.length_take]; rfl)) ?_; (with_reducible refine (laws_toSlotS.calls k _ _ l0 t731 _ ?side1 ?side2 A8.out).mono ?_); (case side1 => exact Kd.C_below HR0.out (by repeat (first | (with_reducible first | exact HB.out | apply below_alloc | apply pw_below_drewN | apply below_drew1 | refine below_set ?_ GE730.out) | exact HB.out))); (case side2 => exact HC0.out); rintro e w17 ⟨v732, rfl, ho0, hb⟩; refine ⟨_, rfl, ?_⟩; have n0_ := Aside0.mk (Kd.R_elder' (by (with_reducible repeat (first | apply Kd.R_alloc | apply Kd.R_drewN | apply Kd.R_drew)); exact (Kd.R_mono (Kd.R_far (p := ⟨gb730, 4, none⟩) (Kd.R_far (p := ⟨gb730, 3, none⟩) (Kd.R_far (p := ⟨gb730, 2, none⟩) (Kd.R_far (p := ⟨gb730, 1, none⟩) (Kd.R_far (p := ⟨gb730, 0, none⟩) (Kd.R_mono HO720.out (fun k_ hk => (⟨hk, hk.2⟩ : _ ∧ k_ ≠ gb730))) (fun _ hk => hk.2) (.string t721)) (fun _ hk => hk.2) (.string t722)) (fun _ hk => hk.2) (.string t723)) (fun _ hk => hk.2) (.string t724)) (fun _ hk => hk.2) (.bool t725)) (fun _ h_ => h_.1))) (Kd.R_base ho0) hb); have n1_ := Aside0.mk (Kd.R_below (by (with_reducible repeat (first | apply Kd.R_alloc | apply Kd.R_drewN | apply Kd.R_drew)); exact (Kd.R_mono (Kd.R_far (p := ⟨gb730, 4, none⟩) (Kd.R_far (p := ⟨gb730, 3, none⟩) (Kd.R_far (p := ⟨gb730, 2, none⟩) (Kd.R_far (p := ⟨gb730, 1, none⟩) (Kd.R_far (p := ⟨gb730, 0, none⟩) (Kd.R_types HO728.out BK730.out (by decide)) (fun _ hk => hk.2) (.string t721)) (fun _ hk => hk.2) (.string t722)) (fun _ hk => hk.2) (.string t723)) (fun _ hk => hk.2) (.string t724)) (fun _ hk => hk.2) (.bool t725)) (fun _ h_ => h_.1))) hb); have n2_ := Aside0.mk (Kd.R_lower (Kd.R_newB (Kd.R_new' ho0 (Kd.R_lt (by (with_reducible repeat (first | apply Kd.R_alloc | apply Kd.R_drewN | apply Kd.R_drew)); exact (Kd.R_mono (Kd.R_far (p := ⟨gb730, 4, none⟩) (Kd.R_far (p := ⟨gb730, 3, none⟩) (Kd.R_far (p := ⟨gb730, 2, none⟩) (Kd.R_far (p := ⟨gb730, 1, none⟩) (Kd.R_far (p := ⟨gb730, 0, none⟩) (Kd.R_mono HO720.out (fun k_ hk => (⟨hk, hk.2⟩ : _ ∧ k_ ≠ gb730))) (fun _ hk => hk.2) (.string t721)) (fun _ hk => hk.2) (.string t722)) (fun _ hk => hk.2) (.string t723)) (fun _ hk => hk.2) (.string t724)) (fun _ hk => hk.2) (.bool t725)) (fun _ h_ => h_.1))))) (g := gb730) (o := .cells #[.string t721, .string t722, .string t723, .string t724, .bool t725] 72 (0, 0)) (by (with_reducible repeat (first | refine blk_drewN ?_ _ | refine blk_drew ?_ | refine blk_alloc ?_ _)); refine blk_put (cs := #[.string t721, .string t722, .string t723, .string t724, .bool false]) ?_ 4 _ rfl; (with_reducible repeat (first | refine blk_drewN ?_ _ | refine blk_drew ?_ | refine blk_alloc ?_ _)); refine blk_put (cs := #[.string t721, .string t722, .string t723, .string (⟨#[]⟩ : ByteArray), .bool false]) ?_ 3 _ rfl; (with_reducible repeat (first | refine blk_drewN ?_ _ | refine blk_drew ?_ | refine blk_alloc ?_ _)); refine blk_put (cs := #[.string t721, .string t722, .string (⟨#[]⟩ : ByteArray), .string (⟨#[]⟩ : ByteArray), .bool false]) ?_ 2 _ rfl; (with_reducible repeat (first | refine blk_drewN ?_ _ | refine blk_drew ?_ | refine blk_alloc ?_ _)); refine blk_put (cs := #[.string t721, .string (⟨#[]⟩ : ByteArray), .string (⟨#[]⟩ : ByteArray), .string (⟨#[]⟩ : ByteArray), .bool false]) ?_ 1 _ rfl; (with_reducible repeat (first | refine blk_drewN ?_ _ | refine blk_drew ?_ | refine blk_alloc ?_ _)); refine blk_put (cs := #[.string (⟨#[]⟩ : ByteArray), .string (⟨#[]⟩ : ByteArray), .string (⟨#[]⟩ : ByteArray), .string (⟨#[]⟩ : ByteArray), .bool false]) ?_ 0 _ rfl; (with_reducible repeat (first | refine blk_drewN ?_ _ | refine blk_drew ?_ | refine blk_alloc ?_ _)); exact BK730.out)) (below_size (by repeat (first | (with_reducible first | exact HB.out | apply below_alloc | apply pw_below_drewN | apply below_drew1 | refine below_set ?_ GE730.out) | exact HB.out)))); have n3_ := Aside0.mk (blk_below (g := gb730) (o := .cells #[.string t721, .string t722, .string t723, .string t724, .bool t725] 72 (0, 0)) (by (with_reducible repeat (first | refine blk_drewN ?_ _ | refine blk_drew ?_ | refine blk_alloc ?_ _)); refine blk_put (cs := #[.string t721, .string t722, .string t723, .string t724, .bool false]) ?_ 4 _ rfl; (with_reducible repeat (first | refine blk_drewN ?_ _ | refine blk_drew ?_ | refine blk_alloc ?_ _)); refine blk_put (cs := #[.string t721, .string t722, .string t723, .string (⟨#[]⟩ : ByteArray), .bool false]) ?_ 3 _ rfl; (with_reducible repeat (first | refine blk_drewN ?_ _ | refine blk_drew ?_ | refine blk_alloc ?_ _)); refine blk_put (cs := #[.string t721, .string t722, .string (⟨#[]⟩ : ByteArray), .string (⟨#[]⟩ : ByteArray), .bool false]) ?_ 2 _ rfl; (with_reducible repeat (first | refine blk_drewN ?_ _ | refine blk_drew ?_ | refine blk_alloc ?_ _)); refine blk_put (cs := #[.string t721, .string (⟨#[]⟩ : ByteArray), .string (⟨#[]⟩ : ByteArray), .string (⟨#[]⟩ : ByteArray), .bool false]) ?_ 1 _ rfl; (with_reducible repeat (first | refine blk_drewN ?_ _ | refine blk_drew ?_ | refine blk_alloc ?_ _)); refine blk_put (cs := #[.string (⟨#[]⟩ : ByteArray), .string (⟨#[]⟩ : ByteArray), .string (⟨#[]⟩ : ByteArray), .string (⟨#[]⟩ : ByteArray), .bool false]) ?_ 0 _ rfl; (with_reducible repeat (first | refine blk_drewN ?_ _ | refine blk_drew ?_ | refine blk_alloc ?_ _)); exact BK730.out) hb); have n4_ := Aside0.mk (below_step (by repeat (first | (with_reducible first | exact HB.out | apply below_alloc | apply pw_below_drewN | apply below_drew1 | refine below_set ?_ GE730.out) | exact HB.out)) hb); clear HO720; clear HO728; clear BK730; clear HB; have HO720 := n0_; have HO728 := n1_; have HO733 := n2_; have BK730 := n3_; have HB := n4_; clear n0_ n1_ n2_ n3_ n4_; (try clear hb); (try clear hb2); (try clear hk); (try clear hi); (try clear ho0); obtain ⟨Ao18, co18, eo18⟩ := Kd.R_slice HO733.out; subst eo18) | ((with_reducible refine gate_callee (f := 50) rfl ?_); refine goesL_ (some 37) rfl rfl Try.func50 (by kernel_rfl) rfl #[.slice Ao18 t731.length co18, .int .i64 a1] rfl (by (try simp only [List.map_toArray, List.map_cons, List.map_nil]); first | done | rfl | (simp only [List.length_drop, List.length_take]; rfl)) ?_; (with_reducible refine (impl_ShowSlot.calls k _ _ t731 a1 t734 t735 t736 t737 t738 t739 t742 _ ?side1 ?side2 A9.out).mono ?_); (case side1 => repeat (first | exact (Kd.R_reads' HO733.out).2.2 | (with_reducible refine Kd.C_alloc ?_ _) | (with_reducible refine Kd.C_drewN ?_ _) | (with_reducible refine Kd.C_drew ?_))); (case side2 => exact (Kd.R_reads' HO733.out).2.1); rintro e w19 ⟨v740, rfl, ho0, hb⟩; refine ⟨_, rfl, ?_⟩; have n0_ := Aside0.mk (Kd.R_below (by (with_reducible repeat (first | apply Kd.R_alloc | apply Kd.R_drewN | apply Kd.R_drew)); exact HO720.out) hb); have n1_ := Aside0.mk (Kd.R_elder' (by (with_reducible repeat (first | apply Kd.R_alloc | apply Kd.R_drewN | apply Kd.R_drew)); exact HO728.out) (Kd.R_base ho0) hb); have n2_ := Aside0.mk (Kd.R_below (by (with_reducible repeat (first | apply Kd.R_alloc | apply Kd.R_drewN | apply Kd.R_drew)); exact HO733.out) hb); have n3_ := Aside0.mk (Kd.R_lower (Kd.R_new' ho0 (Kd.R_lt (by (with_reducible repeat (first | apply Kd.R_alloc | apply Kd.R_drewN | apply Kd.R_drew)); exact HO728.out))) (below_size (by repeat (first | (with_reducible first | exact HB.out | apply below_alloc | apply pw_below_drewN | apply below_drew1 | refine below_set ?_ GE730.out) | exact HB.out)))); have n4_ := Aside0.mk (blk_below (g := gb730) (o := .cells #[.string t721, .string t722, .string t723, .string t724, .bool t725] 72 (0, 0)) (by (with_reducible repeat (first | refine blk_drewN ?_ _ | refine blk_drew ?_ | refine blk_alloc ?_ _)); exact BK730.out) hb); have n5_ := Aside0.mk (below_step (by repeat (first | (with_reducible first | exact HB.out | apply below_alloc | apply pw_below_drewN | apply below_drew1 | refine below_set ?_ GE730.out) | exact HB.out)) hb); clear HO720; clear HO728; clear HO733; clear BK730; clear HB; have HO720 := n0_; have HO728 := n1_; have HO733 := n2_; have HO741 := n3_; have BK730 := n4_; have HB := n5_; clear n0_ n1_ n2_ n3_ n4_ n5_; (try clear hb); (try clear hb2); (try clear hk); (try clear hi); (try clear ho0)) | ((with_reducible refine gate_dst (N := 10) rfl ?_); refine box_event ?hg (N := 10) ?hd (cs := #[.string (⟨#[]⟩ : ByteArray), .string (⟨#[]⟩ : ByteArray), .string (⟨#[]⟩ : ByteArray), .string (⟨#[]⟩ : ByteArray), .bool false]) (t := 72) ?hr ?_; (case hd => rfl); (case hg => rfl); (case hr => first | (go_simp; done) | (go_simp; rfl)); intro gb743 hg w20 hbox hb; have n0_ := Aside0.mk (Kd.R_below (Kd.R_elderB (by (with_reducible repeat (first | apply Kd.R_alloc | apply Kd.R_drewN | apply Kd.R_drew)); exact HO720.out) gb743 (Nat.le_of_eq hg.symm)) hb); have n1_ := Aside0.mk (Kd.R_below (by (with_reducible repeat (first | apply Kd.R_alloc | apply Kd.R_drewN | apply Kd.R_drew)); exact HO728.out) hb); have n2_ := Aside0.mk (Kd.R_below (Kd.R_elderB (by (with_reducible repeat (first | apply Kd.R_alloc | apply Kd.R_drewN | apply Kd.R_drew)); exact HO733.out) gb743 (Nat.le_of_eq hg.symm)) hb); have n3_ := Aside0.mk (Kd.R_below (by (with_reducible repeat (first | apply Kd.R_alloc | apply Kd.R_drewN | apply Kd.R_drew)); exact HO741.out) hb); have n4_ := Aside0.mk (blk_below (g := gb730) (o := .cells #[.string t721, .string t722, .string t723, .string t724, .bool t725] 72 (0, 0)) (by (with_reducible repeat (first | refine blk_drewN ?_ _ | refine blk_drew ?_ | refine blk_alloc ?_ _)); exact BK730.out) hb); have n5_ := Aside0.mk (below_step (by repeat (first | (with_reducible first | exact HB.out | apply below_alloc | apply pw_below_drewN | apply below_drew1 | refine below_set ?_ GE730.out) | exact HB.out)) hb); have n6_ := Aside0.mk (hbox); have n7_ := Aside0.mk ((by rw [hg]; exact (below_size (by repeat (first | (with_reducible first | exact HB.out | apply below_alloc | apply pw_below_drewN | apply below_drew1 | refine below_set ?_ GE730.out) | exact HB.out))) : w.heap.size ≤ gb743)); have n8_ := Aside0.mk ((by rw [hg]; exact (below_size (by repeat (first | (with_reducible first | exact HB.out | apply below_alloc | apply pw_below_drewN | apply below_drew1 | refine below_set ?_ GE730.out) | exact HB.out))) : w.heap.size ≤ gb743)); have n9_ := Aside0.mk ((by rw [hg]; exact Nat.ne_of_lt (blk_lt (g := gb730) (o := .cells #[.string t721, .string t722, .string t723, .string t724, .bool t725] 72 (0, 0)) (by (with_reducible repeat (first | refine blk_drewN ?_ _ | refine blk_drew ?_ | refine blk_alloc ?_ _)); exact BK730.out)) : gb730 ≠ gb743)); have n10_ := Aside0.mk ((by rw [hg]; exact Nat.ne_of_gt (blk_lt (g := gb730) (o := .cells #[.string t721, .string t722, .string t723, .string t724, .bool t725] 72 (0, 0)) (by (with_reducible repeat (first | refine blk_drewN ?_ _ | refine blk_drew ?_ | refine blk_alloc ?_ _)); exact BK730.out)) : gb743 ≠ gb730)); clear HO720; clear HO728; clear HO733; clear HO741; clear BK730; clear HB; have HO720 := n0_; have HO728 := n1_; have HO733 := n2_; have HO741 := n3_; have BK730 := n4_; have HB := n5_; have BK743 := n6_; have GW743 := n7_; have GE743 := n8_; have NB730_743 := n9_; have NB743_730 := n10_; clear n0_ n1_ n2_ n3_ n4_ n5_ n6_ n7_ n8_ n9_ n10_; clear hb hbox hg; have hnb21 := NB743_730.out; have hnc21 := NB730_743.out; have hcz22_0 : w20.cell? ⟨gb743, 0, none⟩ = some (.string (⟨#[]⟩ : ByteArray)) := (blk_cell BK743.out 0).trans rfl; have hcz22_1 : w20.cell? ⟨gb743, 1, none⟩ = some (.string (⟨#[]⟩ : ByteArray)) := (blk_cell BK743.out 1).trans rfl; have hcz22_2 : w20.cell? ⟨gb743, 2, none⟩ = some (.string (⟨#[]⟩ : ByteArray)) := (blk_cell BK743.out 2).trans rfl; have hcz22_3 : w20.cell? ⟨gb743, 3, none⟩ = some (.string (⟨#[]⟩ : ByteArray)) := (blk_cell BK743.out 3).trans rfl; have hcz22_4 : w20.cell? ⟨gb743, 4, none⟩ = some (.bool false) := (blk_cell BK743.out 4).trans rfl; have hfz22_0 := blk_frozen BK743.out 0; have hfz22_1 := blk_frozen BK743.out 1; have hfz22_2 := blk_frozen BK743.out 2; have hfz22_3 := blk_frozen BK743.out 3; have hfz22_4 := blk_frozen BK743.out 4))
  (try simp only [Act.put, List.setIfInBounds_toArray, List.set_cons_zero, List.set_cons_succ])
  go_cut [55] (fun v55 wc => ∃ (kq : Nat) (x55_9 : Bool), v55 = .bool x55_9 ∧ Aside0 (laws_FnExactShowSlot.j0 kq l0 a1 t726 t729 t731 t739 t742 x55_9 t721 t722 t723 t724 t725 t734 t735 t736 t737 t738 = some r) ∧ Aside0 (kq ≤ k) ∧ Aside0 (Kd.R Kd.string 9 wc w.heap.size (fun k_ => some k_ ≠ (v740 : Value).ownBlock) v727 t726) ∧ Aside0 (Kd.R k72 72 wc w.heap.size (fun k_ => k_ ≠ gb730 ∧ k_ ≠ gb743) (.slice Ao18 t731.length co18) t731) ∧ Aside0 (Kd.R Kd.string 9 wc w.heap.size (fun k_ => some k_ ≠ (v727 : Value).ownBlock) v740 t739) ∧ Aside0 (wc.heap[gb730]? = some (.cells #[.string t721, .string t722, .string t723, .string t724, .bool t725] 72 (0, 0))) ∧ Aside0 (wc.heap[gb743]? = some (.cells #[.string t734, .string t735, .string t736, .string t737, .bool t738] 72 (0, 0))) ∧ Aside0 (Below w.heap.size w wc))
  case first =>
   have H := HC10.out
   clear HC10
   replace H := Option.bind_eq_some_iff.mp H
   obtain ⟨t744, A230, H⟩ := H
   replace H : (if t744 = true then ((laws_eqStringS.f k t739 t726).bind fun t745 => (if t745 = true then (laws_FnExactShowSlot.j0 k l0 a1 t726 t729 t731 t739 t742 (t742 != t729) t721 t722 t723 t724 t725 t734 t735 t736 t737 t738) else (laws_FnExactShowSlot.j0 k l0 a1 t726 t729 t731 t739 t742 true t721 t722 t723 t724 t725 t734 t735 t736 t737 t738))) else (laws_FnExactShowSlot.j0 k l0 a1 t726 t729 t731 t739 t742 true t721 t722 t723 t724 t725 t734 t735 t736 t737 t738)) = some r := H
   have A23 := Aside0.mk A230
   clear A230
   by_cases c24 : t744 = true
   ·subst c24
    have H1 : ((laws_eqStringS.f k t739 t726).bind fun t745 => (if t745 = true then (laws_FnExactShowSlot.j0 k l0 a1 t726 t729 t731 t739 t742 (t742 != t729) t721 t722 t723 t724 t725 t734 t735 t736 t737 t738) else (laws_FnExactShowSlot.j0 k l0 a1 t726 t729 t731 t739 t742 true t721 t722 t723 t724 t725 t734 t735 t736 t737 t738))) = some r := by rw [if_pos rfl] at H; exact H
    clear H
    have H := H1
    clear H1
    replace H := Option.bind_eq_some_iff.mp H
    obtain ⟨t745, A250, H⟩ := H
    replace H : (if t745 = true then (laws_FnExactShowSlot.j0 k l0 a1 t726 t729 t731 t739 t742 (t742 != t729) t721 t722 t723 t724 t725 t734 t735 t736 t737 t738) else (laws_FnExactShowSlot.j0 k l0 a1 t726 t729 t731 t739 t742 true t721 t722 t723 t724 t725 t734 t735 t736 t737 t738)) = some r := H
    have A25 := Aside0.mk A250
    clear A250
    by_cases c26 : t745 = true
    ·subst c26
     have H1 : (laws_FnExactShowSlot.j0 k l0 a1 t726 t729 t731 t739 t742 (t742 != t729) t721 t722 t723 t724 t725 t734 t735 t736 t737 t738) = some r := by rw [if_pos rfl] at H; exact H
     clear H
     have H := H1
     clear H1
     have H' := Aside0.mk H
     clear H
     have hnb27 := NB743_730.out
     have hnc27 := NB730_743.out
     have hcz28_0 : w20.cell? ⟨gb743, 0, none⟩ = some (.string (⟨#[]⟩ : ByteArray)) := (blk_cell BK743.out 0).trans rfl
     have hcz28_1 : w20.cell? ⟨gb743, 1, none⟩ = some (.string (⟨#[]⟩ : ByteArray)) := (blk_cell BK743.out 1).trans rfl
     have hcz28_2 : w20.cell? ⟨gb743, 2, none⟩ = some (.string (⟨#[]⟩ : ByteArray)) := (blk_cell BK743.out 2).trans rfl
     have hcz28_3 : w20.cell? ⟨gb743, 3, none⟩ = some (.string (⟨#[]⟩ : ByteArray)) := (blk_cell BK743.out 3).trans rfl
     have hcz28_4 : w20.cell? ⟨gb743, 4, none⟩ = some (.bool false) := (blk_cell BK743.out 4).trans rfl
     have hfz28_0 := blk_frozen BK743.out 0
     have hfz28_1 := blk_frozen BK743.out 1
     have hfz28_2 := blk_frozen BK743.out 2
     have hfz28_3 := blk_frozen BK743.out 3
     have hfz28_4 := blk_frozen BK743.out 4
     have hcz29_0 : w20.cell? ⟨gb730, 0, none⟩ = some (.string t721) := (blk_cell BK730.out 0).trans rfl
     have hcz29_1 : w20.cell? ⟨gb730, 1, none⟩ = some (.string t722) := (blk_cell BK730.out 1).trans rfl
     have hcz29_2 : w20.cell? ⟨gb730, 2, none⟩ = some (.string t723) := (blk_cell BK730.out 2).trans rfl
     have hcz29_3 : w20.cell? ⟨gb730, 3, none⟩ = some (.string t724) := (blk_cell BK730.out 3).trans rfl
     have hcz29_4 : w20.cell? ⟨gb730, 4, none⟩ = some (.bool t725) := (blk_cell BK730.out 4).trans rfl
     have hfz29_0 := blk_frozen BK730.out 0
     have hfz29_1 := blk_frozen BK730.out 1
     have hfz29_2 := blk_frozen BK730.out 2
     have hfz29_3 := blk_frozen BK730.out 3
     have hfz29_4 := blk_frozen BK730.out 4
     go_wp2_with (first | ((with_reducible refine gate_callee (f := 66) rfl ?_); refine goesL_ (some 43) rfl rfl Try.func66 (by kernel_rfl) rfl #[.agg #[.string t734, .string t735, .string t736, .string t737, .bool t738], .agg #[.string t721, .string t722, .string t723, .string t724, .bool t725]] rfl (by (try simp only [List.map_toArray, List.map_cons, List.map_nil]); first | done | rfl | (simp only [List.length_drop, List.length_take]; rfl)) ?_; (with_reducible refine (laws_eqSlot.calls t734 t735 t736 t737 t738 t721 t722 t723 t724 t725 true _ A23.out).mono ?_); rintro e w30 ⟨rfl, hb⟩; refine ⟨_, rfl, ?_⟩; have n0_ := Aside0.mk (Kd.R_below (by (with_reducible repeat (first | apply Kd.R_alloc | apply Kd.R_drewN | apply Kd.R_drew)); exact (Kd.R_mono (Kd.R_far (p := ⟨gb743, 4, none⟩) (Kd.R_far (p := ⟨gb743, 3, none⟩) (Kd.R_far (p := ⟨gb743, 2, none⟩) (Kd.R_far (p := ⟨gb743, 1, none⟩) (Kd.R_far (p := ⟨gb743, 0, none⟩) (Kd.R_mono HO720.out (fun k_ hk => (⟨hk, hk.2⟩ : _ ∧ k_ ≠ gb743))) (fun _ hk => hk.2) (.string t734)) (fun _ hk => hk.2) (.string t735)) (fun _ hk => hk.2) (.string t736)) (fun _ hk => hk.2) (.string t737)) (fun _ hk => hk.2) (.bool t738)) (fun _ h_ => h_.1))) hb); have n1_ := Aside0.mk (Kd.R_below (by (with_reducible repeat (first | apply Kd.R_alloc | apply Kd.R_drewN | apply Kd.R_drew)); exact (Kd.R_mono (Kd.R_far (p := ⟨gb743, 4, none⟩) (Kd.R_far (p := ⟨gb743, 3, none⟩) (Kd.R_far (p := ⟨gb743, 2, none⟩) (Kd.R_far (p := ⟨gb743, 1, none⟩) (Kd.R_far (p := ⟨gb743, 0, none⟩) (Kd.R_types HO728.out BK743.out (by decide)) (fun _ hk => hk.2) (.string t734)) (fun _ hk => hk.2) (.string t735)) (fun _ hk => hk.2) (.string t736)) (fun _ hk => hk.2) (.string t737)) (fun _ hk => hk.2) (.bool t738)) (fun _ h_ => h_.1))) hb); have n2_ := Aside0.mk (Kd.R_below (by (with_reducible repeat (first | apply Kd.R_alloc | apply Kd.R_drewN | apply Kd.R_drew)); exact (Kd.R_mono (Kd.R_far (p := ⟨gb743, 4, none⟩) (Kd.R_far (p := ⟨gb743, 3, none⟩) (Kd.R_far (p := ⟨gb743, 2, none⟩) (Kd.R_far (p := ⟨gb743, 1, none⟩) (Kd.R_far (p := ⟨gb743, 0, none⟩) (Kd.R_mono HO733.out (fun k_ hk => (⟨hk, hk.2⟩ : _ ∧ k_ ≠ gb743))) (fun _ hk => hk.2) (.string t734)) (fun _ hk => hk.2) (.string t735)) (fun _ hk => hk.2) (.string t736)) (fun _ hk => hk.2) (.string t737)) (fun _ hk => hk.2) (.bool t738)) (fun _ h_ => h_.1))) hb); have n3_ := Aside0.mk (Kd.R_below (by (with_reducible repeat (first | apply Kd.R_alloc | apply Kd.R_drewN | apply Kd.R_drew)); exact (Kd.R_mono (Kd.R_far (p := ⟨gb743, 4, none⟩) (Kd.R_far (p := ⟨gb743, 3, none⟩) (Kd.R_far (p := ⟨gb743, 2, none⟩) (Kd.R_far (p := ⟨gb743, 1, none⟩) (Kd.R_far (p := ⟨gb743, 0, none⟩) (Kd.R_types HO741.out BK743.out (by decide)) (fun _ hk => hk.2) (.string t734)) (fun _ hk => hk.2) (.string t735)) (fun _ hk => hk.2) (.string t736)) (fun _ hk => hk.2) (.string t737)) (fun _ hk => hk.2) (.bool t738)) (fun _ h_ => h_.1))) hb); have n4_ := Aside0.mk (blk_below (g := gb730) (o := .cells #[.string t721, .string t722, .string t723, .string t724, .bool t725] 72 (0, 0)) (by (with_reducible repeat (first | refine blk_drewN ?_ _ | refine blk_drew ?_ | refine blk_alloc ?_ _)); refine blk_far ?_ NB730_743.out _; (with_reducible repeat (first | refine blk_drewN ?_ _ | refine blk_drew ?_ | refine blk_alloc ?_ _)); refine blk_far ?_ NB730_743.out _; (with_reducible repeat (first | refine blk_drewN ?_ _ | refine blk_drew ?_ | refine blk_alloc ?_ _)); refine blk_far ?_ NB730_743.out _; (with_reducible repeat (first | refine blk_drewN ?_ _ | refine blk_drew ?_ | refine blk_alloc ?_ _)); refine blk_far ?_ NB730_743.out _; (with_reducible repeat (first | refine blk_drewN ?_ _ | refine blk_drew ?_ | refine blk_alloc ?_ _)); refine blk_far ?_ NB730_743.out _; (with_reducible repeat (first | refine blk_drewN ?_ _ | refine blk_drew ?_ | refine blk_alloc ?_ _)); exact BK730.out) hb); have n5_ := Aside0.mk (blk_below (g := gb743) (o := .cells #[.string t734, .string t735, .string t736, .string t737, .bool t738] 72 (0, 0)) (by (with_reducible repeat (first | refine blk_drewN ?_ _ | refine blk_drew ?_ | refine blk_alloc ?_ _)); refine blk_put (cs := #[.string t734, .string t735, .string t736, .string t737, .bool false]) ?_ 4 _ rfl; (with_reducible repeat (first | refine blk_drewN ?_ _ | refine blk_drew ?_ | refine blk_alloc ?_ _)); refine blk_put (cs := #[.string t734, .string t735, .string t736, .string (⟨#[]⟩ : ByteArray), .bool false]) ?_ 3 _ rfl; (with_reducible repeat (first | refine blk_drewN ?_ _ | refine blk_drew ?_ | refine blk_alloc ?_ _)); refine blk_put (cs := #[.string t734, .string t735, .string (⟨#[]⟩ : ByteArray), .string (⟨#[]⟩ : ByteArray), .bool false]) ?_ 2 _ rfl; (with_reducible repeat (first | refine blk_drewN ?_ _ | refine blk_drew ?_ | refine blk_alloc ?_ _)); refine blk_put (cs := #[.string t734, .string (⟨#[]⟩ : ByteArray), .string (⟨#[]⟩ : ByteArray), .string (⟨#[]⟩ : ByteArray), .bool false]) ?_ 1 _ rfl; (with_reducible repeat (first | refine blk_drewN ?_ _ | refine blk_drew ?_ | refine blk_alloc ?_ _)); refine blk_put (cs := #[.string (⟨#[]⟩ : ByteArray), .string (⟨#[]⟩ : ByteArray), .string (⟨#[]⟩ : ByteArray), .string (⟨#[]⟩ : ByteArray), .bool false]) ?_ 0 _ rfl; (with_reducible repeat (first | refine blk_drewN ?_ _ | refine blk_drew ?_ | refine blk_alloc ?_ _)); exact BK743.out) hb); have n6_ := Aside0.mk (below_step (by repeat (first | (with_reducible first | exact HB.out | apply below_alloc | apply pw_below_drewN | apply below_drew1 | refine below_set ?_ GE730.out | refine below_set ?_ GE743.out) | exact HB.out)) hb); clear HO720; clear HO728; clear HO733; clear HO741; clear BK730; clear BK743; clear HB; have HO720 := n0_; have HO728 := n1_; have HO733 := n2_; have HO741 := n3_; have BK730 := n4_; have BK743 := n5_; have HB := n6_; clear n0_ n1_ n2_ n3_ n4_ n5_ n6_; (try clear hb); (try clear hb2); (try clear hk); (try clear hi); obtain ⟨Ao31, co31, eo31⟩ := Kd.R_slice HO741.out; subst eo31; obtain ⟨Ao32, co32, eo32⟩ := Kd.R_slice HO728.out; subst eo32) | (go_at_call 67; (with_reducible refine (laws_eqStringS.calls k _ _ t739 _ _ t726 true _ ?side1 ?side2 ?side3 ?side4 A25.out).mono ?_); (case side1 => repeat (first | exact (Kd.R_reads' HO741.out).2.2 | (with_reducible refine Kd.C_alloc ?_ _) | (with_reducible refine Kd.C_drewN ?_ _) | (with_reducible refine Kd.C_drew ?_))); (case side2 => exact (Kd.R_reads' HO741.out).2.1); (case side3 => repeat (first | exact (Kd.R_reads' HO728.out).2.2 | (with_reducible refine Kd.C_alloc ?_ _) | (with_reducible refine Kd.C_drewN ?_ _) | (with_reducible refine Kd.C_drew ?_))); (case side4 => exact (Kd.R_reads' HO728.out).2.1); rintro e w' ⟨rfl, ⟨nd, rfl⟩⟩))
     go_meet
     case rel => exact ⟨_, ((t742 != t729)), (by first | rfl | (simp; done) | (simp [*]; done) | (simp [bne]; done)), H', ⟨by first | omega | exact Nat.le_refl _⟩, ⟨by (with_reducible repeat (first | apply Kd.R_alloc | apply Kd.R_drewN | apply Kd.R_drew)); exact Kd.R_mono HO728.out (fun _ hk => hk.2)⟩, ⟨by (with_reducible repeat (first | apply Kd.R_alloc | apply Kd.R_drewN | apply Kd.R_drew)); exact Kd.R_mono HO733.out (fun _ hk => ⟨hk.1.2, hk.2⟩)⟩, ⟨by (with_reducible repeat (first | apply Kd.R_alloc | apply Kd.R_drewN | apply Kd.R_drew)); exact Kd.R_mono HO741.out (fun _ hk => hk.2)⟩, ⟨by (with_reducible repeat (first | refine blk_drewN ?_ _ | refine blk_drew ?_ | refine blk_alloc ?_ _)); exact BK730.out⟩, ⟨by (with_reducible repeat (first | refine blk_drewN ?_ _ | refine blk_drew ?_ | refine blk_alloc ?_ _)); exact BK743.out⟩, ⟨by repeat (first | (with_reducible first | exact HB.out | apply below_alloc | apply pw_below_drewN | apply below_drew1 | refine below_set ?_ GE730.out | refine below_set ?_ GE743.out) | exact HB.out)⟩⟩
    ·replace c26 := Bool.eq_false_iff.mpr c26
     subst c26
     have H1 : (laws_FnExactShowSlot.j0 k l0 a1 t726 t729 t731 t739 t742 true t721 t722 t723 t724 t725 t734 t735 t736 t737 t738) = some r := by rw [if_neg (show ¬ (false = true) by decide)] at H; exact H
     clear H
     have H := H1
     clear H1
     have H' := Aside0.mk H
     clear H
     have hnb33 := NB743_730.out
     have hnc33 := NB730_743.out
     have hcz34_0 : w20.cell? ⟨gb743, 0, none⟩ = some (.string (⟨#[]⟩ : ByteArray)) := (blk_cell BK743.out 0).trans rfl
     have hcz34_1 : w20.cell? ⟨gb743, 1, none⟩ = some (.string (⟨#[]⟩ : ByteArray)) := (blk_cell BK743.out 1).trans rfl
     have hcz34_2 : w20.cell? ⟨gb743, 2, none⟩ = some (.string (⟨#[]⟩ : ByteArray)) := (blk_cell BK743.out 2).trans rfl
     have hcz34_3 : w20.cell? ⟨gb743, 3, none⟩ = some (.string (⟨#[]⟩ : ByteArray)) := (blk_cell BK743.out 3).trans rfl
     have hcz34_4 : w20.cell? ⟨gb743, 4, none⟩ = some (.bool false) := (blk_cell BK743.out 4).trans rfl
     have hfz34_0 := blk_frozen BK743.out 0
     have hfz34_1 := blk_frozen BK743.out 1
     have hfz34_2 := blk_frozen BK743.out 2
     have hfz34_3 := blk_frozen BK743.out 3
     have hfz34_4 := blk_frozen BK743.out 4
     have hcz35_0 : w20.cell? ⟨gb730, 0, none⟩ = some (.string t721) := (blk_cell BK730.out 0).trans rfl
     have hcz35_1 : w20.cell? ⟨gb730, 1, none⟩ = some (.string t722) := (blk_cell BK730.out 1).trans rfl
     have hcz35_2 : w20.cell? ⟨gb730, 2, none⟩ = some (.string t723) := (blk_cell BK730.out 2).trans rfl
     have hcz35_3 : w20.cell? ⟨gb730, 3, none⟩ = some (.string t724) := (blk_cell BK730.out 3).trans rfl
     have hcz35_4 : w20.cell? ⟨gb730, 4, none⟩ = some (.bool t725) := (blk_cell BK730.out 4).trans rfl
     have hfz35_0 := blk_frozen BK730.out 0
     have hfz35_1 := blk_frozen BK730.out 1
     have hfz35_2 := blk_frozen BK730.out 2
     have hfz35_3 := blk_frozen BK730.out 3
     have hfz35_4 := blk_frozen BK730.out 4
     go_wp2_with (first | ((with_reducible refine gate_callee (f := 66) rfl ?_); refine goesL_ (some 43) rfl rfl Try.func66 (by kernel_rfl) rfl #[.agg #[.string t734, .string t735, .string t736, .string t737, .bool t738], .agg #[.string t721, .string t722, .string t723, .string t724, .bool t725]] rfl (by (try simp only [List.map_toArray, List.map_cons, List.map_nil]); first | done | rfl | (simp only [List.length_drop, List.length_take]; rfl)) ?_; (with_reducible refine (laws_eqSlot.calls t734 t735 t736 t737 t738 t721 t722 t723 t724 t725 true _ A23.out).mono ?_); rintro e w36 ⟨rfl, hb⟩; refine ⟨_, rfl, ?_⟩; have n0_ := Aside0.mk (Kd.R_below (by (with_reducible repeat (first | apply Kd.R_alloc | apply Kd.R_drewN | apply Kd.R_drew)); exact (Kd.R_mono (Kd.R_far (p := ⟨gb743, 4, none⟩) (Kd.R_far (p := ⟨gb743, 3, none⟩) (Kd.R_far (p := ⟨gb743, 2, none⟩) (Kd.R_far (p := ⟨gb743, 1, none⟩) (Kd.R_far (p := ⟨gb743, 0, none⟩) (Kd.R_mono HO720.out (fun k_ hk => (⟨hk, hk.2⟩ : _ ∧ k_ ≠ gb743))) (fun _ hk => hk.2) (.string t734)) (fun _ hk => hk.2) (.string t735)) (fun _ hk => hk.2) (.string t736)) (fun _ hk => hk.2) (.string t737)) (fun _ hk => hk.2) (.bool t738)) (fun _ h_ => h_.1))) hb); have n1_ := Aside0.mk (Kd.R_below (by (with_reducible repeat (first | apply Kd.R_alloc | apply Kd.R_drewN | apply Kd.R_drew)); exact (Kd.R_mono (Kd.R_far (p := ⟨gb743, 4, none⟩) (Kd.R_far (p := ⟨gb743, 3, none⟩) (Kd.R_far (p := ⟨gb743, 2, none⟩) (Kd.R_far (p := ⟨gb743, 1, none⟩) (Kd.R_far (p := ⟨gb743, 0, none⟩) (Kd.R_types HO728.out BK743.out (by decide)) (fun _ hk => hk.2) (.string t734)) (fun _ hk => hk.2) (.string t735)) (fun _ hk => hk.2) (.string t736)) (fun _ hk => hk.2) (.string t737)) (fun _ hk => hk.2) (.bool t738)) (fun _ h_ => h_.1))) hb); have n2_ := Aside0.mk (Kd.R_below (by (with_reducible repeat (first | apply Kd.R_alloc | apply Kd.R_drewN | apply Kd.R_drew)); exact (Kd.R_mono (Kd.R_far (p := ⟨gb743, 4, none⟩) (Kd.R_far (p := ⟨gb743, 3, none⟩) (Kd.R_far (p := ⟨gb743, 2, none⟩) (Kd.R_far (p := ⟨gb743, 1, none⟩) (Kd.R_far (p := ⟨gb743, 0, none⟩) (Kd.R_mono HO733.out (fun k_ hk => (⟨hk, hk.2⟩ : _ ∧ k_ ≠ gb743))) (fun _ hk => hk.2) (.string t734)) (fun _ hk => hk.2) (.string t735)) (fun _ hk => hk.2) (.string t736)) (fun _ hk => hk.2) (.string t737)) (fun _ hk => hk.2) (.bool t738)) (fun _ h_ => h_.1))) hb); have n3_ := Aside0.mk (Kd.R_below (by (with_reducible repeat (first | apply Kd.R_alloc | apply Kd.R_drewN | apply Kd.R_drew)); exact (Kd.R_mono (Kd.R_far (p := ⟨gb743, 4, none⟩) (Kd.R_far (p := ⟨gb743, 3, none⟩) (Kd.R_far (p := ⟨gb743, 2, none⟩) (Kd.R_far (p := ⟨gb743, 1, none⟩) (Kd.R_far (p := ⟨gb743, 0, none⟩) (Kd.R_types HO741.out BK743.out (by decide)) (fun _ hk => hk.2) (.string t734)) (fun _ hk => hk.2) (.string t735)) (fun _ hk => hk.2) (.string t736)) (fun _ hk => hk.2) (.string t737)) (fun _ hk => hk.2) (.bool t738)) (fun _ h_ => h_.1))) hb); have n4_ := Aside0.mk (blk_below (g := gb730) (o := .cells #[.string t721, .string t722, .string t723, .string t724, .bool t725] 72 (0, 0)) (by (with_reducible repeat (first | refine blk_drewN ?_ _ | refine blk_drew ?_ | refine blk_alloc ?_ _)); refine blk_far ?_ NB730_743.out _; (with_reducible repeat (first | refine blk_drewN ?_ _ | refine blk_drew ?_ | refine blk_alloc ?_ _)); refine blk_far ?_ NB730_743.out _; (with_reducible repeat (first | refine blk_drewN ?_ _ | refine blk_drew ?_ | refine blk_alloc ?_ _)); refine blk_far ?_ NB730_743.out _; (with_reducible repeat (first | refine blk_drewN ?_ _ | refine blk_drew ?_ | refine blk_alloc ?_ _)); refine blk_far ?_ NB730_743.out _; (with_reducible repeat (first | refine blk_drewN ?_ _ | refine blk_drew ?_ | refine blk_alloc ?_ _)); refine blk_far ?_ NB730_743.out _; (with_reducible repeat (first | refine blk_drewN ?_ _ | refine blk_drew ?_ | refine blk_alloc ?_ _)); exact BK730.out) hb); have n5_ := Aside0.mk (blk_below (g := gb743) (o := .cells #[.string t734, .string t735, .string t736, .string t737, .bool t738] 72 (0, 0)) (by (with_reducible repeat (first | refine blk_drewN ?_ _ | refine blk_drew ?_ | refine blk_alloc ?_ _)); refine blk_put (cs := #[.string t734, .string t735, .string t736, .string t737, .bool false]) ?_ 4 _ rfl; (with_reducible repeat (first | refine blk_drewN ?_ _ | refine blk_drew ?_ | refine blk_alloc ?_ _)); refine blk_put (cs := #[.string t734, .string t735, .string t736, .string (⟨#[]⟩ : ByteArray), .bool false]) ?_ 3 _ rfl; (with_reducible repeat (first | refine blk_drewN ?_ _ | refine blk_drew ?_ | refine blk_alloc ?_ _)); refine blk_put (cs := #[.string t734, .string t735, .string (⟨#[]⟩ : ByteArray), .string (⟨#[]⟩ : ByteArray), .bool false]) ?_ 2 _ rfl; (with_reducible repeat (first | refine blk_drewN ?_ _ | refine blk_drew ?_ | refine blk_alloc ?_ _)); refine blk_put (cs := #[.string t734, .string (⟨#[]⟩ : ByteArray), .string (⟨#[]⟩ : ByteArray), .string (⟨#[]⟩ : ByteArray), .bool false]) ?_ 1 _ rfl; (with_reducible repeat (first | refine blk_drewN ?_ _ | refine blk_drew ?_ | refine blk_alloc ?_ _)); refine blk_put (cs := #[.string (⟨#[]⟩ : ByteArray), .string (⟨#[]⟩ : ByteArray), .string (⟨#[]⟩ : ByteArray), .string (⟨#[]⟩ : ByteArray), .bool false]) ?_ 0 _ rfl; (with_reducible repeat (first | refine blk_drewN ?_ _ | refine blk_drew ?_ | refine blk_alloc ?_ _)); exact BK743.out) hb); have n6_ := Aside0.mk (below_step (by repeat (first | (with_reducible first | exact HB.out | apply below_alloc | apply pw_below_drewN | apply below_drew1 | refine below_set ?_ GE730.out | refine below_set ?_ GE743.out) | exact HB.out)) hb); clear HO720; clear HO728; clear HO733; clear HO741; clear BK730; clear BK743; clear HB; have HO720 := n0_; have HO728 := n1_; have HO733 := n2_; have HO741 := n3_; have BK730 := n4_; have BK743 := n5_; have HB := n6_; clear n0_ n1_ n2_ n3_ n4_ n5_ n6_; (try clear hb); (try clear hb2); (try clear hk); (try clear hi); obtain ⟨Ao37, co37, eo37⟩ := Kd.R_slice HO741.out; subst eo37; obtain ⟨Ao38, co38, eo38⟩ := Kd.R_slice HO728.out; subst eo38) | (go_at_call 67; (with_reducible refine (laws_eqStringS.calls k _ _ t739 _ _ t726 false _ ?side1 ?side2 ?side3 ?side4 A25.out).mono ?_); (case side1 => repeat (first | exact (Kd.R_reads' HO741.out).2.2 | (with_reducible refine Kd.C_alloc ?_ _) | (with_reducible refine Kd.C_drewN ?_ _) | (with_reducible refine Kd.C_drew ?_))); (case side2 => exact (Kd.R_reads' HO741.out).2.1); (case side3 => repeat (first | exact (Kd.R_reads' HO728.out).2.2 | (with_reducible refine Kd.C_alloc ?_ _) | (with_reducible refine Kd.C_drewN ?_ _) | (with_reducible refine Kd.C_drew ?_))); (case side4 => exact (Kd.R_reads' HO728.out).2.1); rintro e w' ⟨rfl, ⟨nd, rfl⟩⟩))
     go_meet
     case rel => exact ⟨_, (true), (by first | rfl | (simp; done) | (simp [*]; done) | (simp [bne]; done)), H', ⟨by first | omega | exact Nat.le_refl _⟩, ⟨by (with_reducible repeat (first | apply Kd.R_alloc | apply Kd.R_drewN | apply Kd.R_drew)); exact Kd.R_mono HO728.out (fun _ hk => hk.2)⟩, ⟨by (with_reducible repeat (first | apply Kd.R_alloc | apply Kd.R_drewN | apply Kd.R_drew)); exact Kd.R_mono HO733.out (fun _ hk => ⟨hk.1.2, hk.2⟩)⟩, ⟨by (with_reducible repeat (first | apply Kd.R_alloc | apply Kd.R_drewN | apply Kd.R_drew)); exact Kd.R_mono HO741.out (fun _ hk => hk.2)⟩, ⟨by (with_reducible repeat (first | refine blk_drewN ?_ _ | refine blk_drew ?_ | refine blk_alloc ?_ _)); exact BK730.out⟩, ⟨by (with_reducible repeat (first | refine blk_drewN ?_ _ | refine blk_drew ?_ | refine blk_alloc ?_ _)); exact BK743.out⟩, ⟨by repeat (first | (with_reducible first | exact HB.out | apply below_alloc | apply pw_below_drewN | apply below_drew1 | refine below_set ?_ GE730.out | refine below_set ?_ GE743.out) | exact HB.out)⟩⟩
   ·replace c24 := Bool.eq_false_iff.mpr c24
    subst c24
    have H1 : (laws_FnExactShowSlot.j0 k l0 a1 t726 t729 t731 t739 t742 true t721 t722 t723 t724 t725 t734 t735 t736 t737 t738) = some r := by rw [if_neg (show ¬ (false = true) by decide)] at H; exact H
    clear H
    have H := H1
    clear H1
    have H' := Aside0.mk H
    clear H
    have hnb39 := NB743_730.out
    have hnc39 := NB730_743.out
    have hcz40_0 : w20.cell? ⟨gb743, 0, none⟩ = some (.string (⟨#[]⟩ : ByteArray)) := (blk_cell BK743.out 0).trans rfl
    have hcz40_1 : w20.cell? ⟨gb743, 1, none⟩ = some (.string (⟨#[]⟩ : ByteArray)) := (blk_cell BK743.out 1).trans rfl
    have hcz40_2 : w20.cell? ⟨gb743, 2, none⟩ = some (.string (⟨#[]⟩ : ByteArray)) := (blk_cell BK743.out 2).trans rfl
    have hcz40_3 : w20.cell? ⟨gb743, 3, none⟩ = some (.string (⟨#[]⟩ : ByteArray)) := (blk_cell BK743.out 3).trans rfl
    have hcz40_4 : w20.cell? ⟨gb743, 4, none⟩ = some (.bool false) := (blk_cell BK743.out 4).trans rfl
    have hfz40_0 := blk_frozen BK743.out 0
    have hfz40_1 := blk_frozen BK743.out 1
    have hfz40_2 := blk_frozen BK743.out 2
    have hfz40_3 := blk_frozen BK743.out 3
    have hfz40_4 := blk_frozen BK743.out 4
    have hcz41_0 : w20.cell? ⟨gb730, 0, none⟩ = some (.string t721) := (blk_cell BK730.out 0).trans rfl
    have hcz41_1 : w20.cell? ⟨gb730, 1, none⟩ = some (.string t722) := (blk_cell BK730.out 1).trans rfl
    have hcz41_2 : w20.cell? ⟨gb730, 2, none⟩ = some (.string t723) := (blk_cell BK730.out 2).trans rfl
    have hcz41_3 : w20.cell? ⟨gb730, 3, none⟩ = some (.string t724) := (blk_cell BK730.out 3).trans rfl
    have hcz41_4 : w20.cell? ⟨gb730, 4, none⟩ = some (.bool t725) := (blk_cell BK730.out 4).trans rfl
    have hfz41_0 := blk_frozen BK730.out 0
    have hfz41_1 := blk_frozen BK730.out 1
    have hfz41_2 := blk_frozen BK730.out 2
    have hfz41_3 := blk_frozen BK730.out 3
    have hfz41_4 := blk_frozen BK730.out 4
    go_wp2_with (first | ((with_reducible refine gate_callee (f := 66) rfl ?_); refine goesL_ (some 43) rfl rfl Try.func66 (by kernel_rfl) rfl #[.agg #[.string t734, .string t735, .string t736, .string t737, .bool t738], .agg #[.string t721, .string t722, .string t723, .string t724, .bool t725]] rfl (by (try simp only [List.map_toArray, List.map_cons, List.map_nil]); first | done | rfl | (simp only [List.length_drop, List.length_take]; rfl)) ?_; (with_reducible refine (laws_eqSlot.calls t734 t735 t736 t737 t738 t721 t722 t723 t724 t725 false _ A23.out).mono ?_); rintro e w42 ⟨rfl, hb⟩; refine ⟨_, rfl, ?_⟩; have n0_ := Aside0.mk (Kd.R_below (by (with_reducible repeat (first | apply Kd.R_alloc | apply Kd.R_drewN | apply Kd.R_drew)); exact (Kd.R_mono (Kd.R_far (p := ⟨gb743, 4, none⟩) (Kd.R_far (p := ⟨gb743, 3, none⟩) (Kd.R_far (p := ⟨gb743, 2, none⟩) (Kd.R_far (p := ⟨gb743, 1, none⟩) (Kd.R_far (p := ⟨gb743, 0, none⟩) (Kd.R_mono HO720.out (fun k_ hk => (⟨hk, hk.2⟩ : _ ∧ k_ ≠ gb743))) (fun _ hk => hk.2) (.string t734)) (fun _ hk => hk.2) (.string t735)) (fun _ hk => hk.2) (.string t736)) (fun _ hk => hk.2) (.string t737)) (fun _ hk => hk.2) (.bool t738)) (fun _ h_ => h_.1))) hb); have n1_ := Aside0.mk (Kd.R_below (by (with_reducible repeat (first | apply Kd.R_alloc | apply Kd.R_drewN | apply Kd.R_drew)); exact (Kd.R_mono (Kd.R_far (p := ⟨gb743, 4, none⟩) (Kd.R_far (p := ⟨gb743, 3, none⟩) (Kd.R_far (p := ⟨gb743, 2, none⟩) (Kd.R_far (p := ⟨gb743, 1, none⟩) (Kd.R_far (p := ⟨gb743, 0, none⟩) (Kd.R_types HO728.out BK743.out (by decide)) (fun _ hk => hk.2) (.string t734)) (fun _ hk => hk.2) (.string t735)) (fun _ hk => hk.2) (.string t736)) (fun _ hk => hk.2) (.string t737)) (fun _ hk => hk.2) (.bool t738)) (fun _ h_ => h_.1))) hb); have n2_ := Aside0.mk (Kd.R_below (by (with_reducible repeat (first | apply Kd.R_alloc | apply Kd.R_drewN | apply Kd.R_drew)); exact (Kd.R_mono (Kd.R_far (p := ⟨gb743, 4, none⟩) (Kd.R_far (p := ⟨gb743, 3, none⟩) (Kd.R_far (p := ⟨gb743, 2, none⟩) (Kd.R_far (p := ⟨gb743, 1, none⟩) (Kd.R_far (p := ⟨gb743, 0, none⟩) (Kd.R_mono HO733.out (fun k_ hk => (⟨hk, hk.2⟩ : _ ∧ k_ ≠ gb743))) (fun _ hk => hk.2) (.string t734)) (fun _ hk => hk.2) (.string t735)) (fun _ hk => hk.2) (.string t736)) (fun _ hk => hk.2) (.string t737)) (fun _ hk => hk.2) (.bool t738)) (fun _ h_ => h_.1))) hb); have n3_ := Aside0.mk (Kd.R_below (by (with_reducible repeat (first | apply Kd.R_alloc | apply Kd.R_drewN | apply Kd.R_drew)); exact (Kd.R_mono (Kd.R_far (p := ⟨gb743, 4, none⟩) (Kd.R_far (p := ⟨gb743, 3, none⟩) (Kd.R_far (p := ⟨gb743, 2, none⟩) (Kd.R_far (p := ⟨gb743, 1, none⟩) (Kd.R_far (p := ⟨gb743, 0, none⟩) (Kd.R_types HO741.out BK743.out (by decide)) (fun _ hk => hk.2) (.string t734)) (fun _ hk => hk.2) (.string t735)) (fun _ hk => hk.2) (.string t736)) (fun _ hk => hk.2) (.string t737)) (fun _ hk => hk.2) (.bool t738)) (fun _ h_ => h_.1))) hb); have n4_ := Aside0.mk (blk_below (g := gb730) (o := .cells #[.string t721, .string t722, .string t723, .string t724, .bool t725] 72 (0, 0)) (by (with_reducible repeat (first | refine blk_drewN ?_ _ | refine blk_drew ?_ | refine blk_alloc ?_ _)); refine blk_far ?_ NB730_743.out _; (with_reducible repeat (first | refine blk_drewN ?_ _ | refine blk_drew ?_ | refine blk_alloc ?_ _)); refine blk_far ?_ NB730_743.out _; (with_reducible repeat (first | refine blk_drewN ?_ _ | refine blk_drew ?_ | refine blk_alloc ?_ _)); refine blk_far ?_ NB730_743.out _; (with_reducible repeat (first | refine blk_drewN ?_ _ | refine blk_drew ?_ | refine blk_alloc ?_ _)); refine blk_far ?_ NB730_743.out _; (with_reducible repeat (first | refine blk_drewN ?_ _ | refine blk_drew ?_ | refine blk_alloc ?_ _)); refine blk_far ?_ NB730_743.out _; (with_reducible repeat (first | refine blk_drewN ?_ _ | refine blk_drew ?_ | refine blk_alloc ?_ _)); exact BK730.out) hb); have n5_ := Aside0.mk (blk_below (g := gb743) (o := .cells #[.string t734, .string t735, .string t736, .string t737, .bool t738] 72 (0, 0)) (by (with_reducible repeat (first | refine blk_drewN ?_ _ | refine blk_drew ?_ | refine blk_alloc ?_ _)); refine blk_put (cs := #[.string t734, .string t735, .string t736, .string t737, .bool false]) ?_ 4 _ rfl; (with_reducible repeat (first | refine blk_drewN ?_ _ | refine blk_drew ?_ | refine blk_alloc ?_ _)); refine blk_put (cs := #[.string t734, .string t735, .string t736, .string (⟨#[]⟩ : ByteArray), .bool false]) ?_ 3 _ rfl; (with_reducible repeat (first | refine blk_drewN ?_ _ | refine blk_drew ?_ | refine blk_alloc ?_ _)); refine blk_put (cs := #[.string t734, .string t735, .string (⟨#[]⟩ : ByteArray), .string (⟨#[]⟩ : ByteArray), .bool false]) ?_ 2 _ rfl; (with_reducible repeat (first | refine blk_drewN ?_ _ | refine blk_drew ?_ | refine blk_alloc ?_ _)); refine blk_put (cs := #[.string t734, .string (⟨#[]⟩ : ByteArray), .string (⟨#[]⟩ : ByteArray), .string (⟨#[]⟩ : ByteArray), .bool false]) ?_ 1 _ rfl; (with_reducible repeat (first | refine blk_drewN ?_ _ | refine blk_drew ?_ | refine blk_alloc ?_ _)); refine blk_put (cs := #[.string (⟨#[]⟩ : ByteArray), .string (⟨#[]⟩ : ByteArray), .string (⟨#[]⟩ : ByteArray), .string (⟨#[]⟩ : ByteArray), .bool false]) ?_ 0 _ rfl; (with_reducible repeat (first | refine blk_drewN ?_ _ | refine blk_drew ?_ | refine blk_alloc ?_ _)); exact BK743.out) hb); have n6_ := Aside0.mk (below_step (by repeat (first | (with_reducible first | exact HB.out | apply below_alloc | apply pw_below_drewN | apply below_drew1 | refine below_set ?_ GE730.out | refine below_set ?_ GE743.out) | exact HB.out)) hb); clear HO720; clear HO728; clear HO733; clear HO741; clear BK730; clear BK743; clear HB; have HO720 := n0_; have HO728 := n1_; have HO733 := n2_; have HO741 := n3_; have BK730 := n4_; have BK743 := n5_; have HB := n6_; clear n0_ n1_ n2_ n3_ n4_ n5_ n6_; (try clear hb); (try clear hb2); (try clear hk); (try clear hi)))
    go_meet
    case rel => exact ⟨_, (true), (by first | rfl | (simp; done) | (simp [*]; done) | (simp [bne]; done)), H', ⟨by first | omega | exact Nat.le_refl _⟩, ⟨by (with_reducible repeat (first | apply Kd.R_alloc | apply Kd.R_drewN | apply Kd.R_drew)); exact Kd.R_mono HO728.out (fun _ hk => hk.2)⟩, ⟨by (with_reducible repeat (first | apply Kd.R_alloc | apply Kd.R_drewN | apply Kd.R_drew)); exact Kd.R_mono HO733.out (fun _ hk => ⟨hk.1.2, hk.2⟩)⟩, ⟨by (with_reducible repeat (first | apply Kd.R_alloc | apply Kd.R_drewN | apply Kd.R_drew)); exact Kd.R_mono HO741.out (fun _ hk => hk.2)⟩, ⟨by (with_reducible repeat (first | refine blk_drewN ?_ _ | refine blk_drew ?_ | refine blk_alloc ?_ _)); exact BK730.out⟩, ⟨by (with_reducible repeat (first | refine blk_drewN ?_ _ | refine blk_drew ?_ | refine blk_alloc ?_ _)); exact BK743.out⟩, ⟨by repeat (first | (with_reducible first | exact HB.out | apply below_alloc | apply pw_below_drewN | apply below_drew1 | refine below_set ?_ GE730.out | refine below_set ?_ GE743.out) | exact HB.out)⟩⟩
  case rest =>
   clear HC10
   try clear c1
   try clear c2
   try clear p2
   try clear c3
   try clear c4
   try clear c4b0
   try clear c5
   try clear c6
   try clear c12
   try clear c15
   try clear c17
   try clear c21
   try clear c24
   try clear c26
   try clear c27
   try clear c33
   try clear c39
   try clear hcz16_0
   try clear hcz16_1
   try clear hcz16_2
   try clear hcz16_3
   try clear hcz16_4
   try clear hcz22_0
   try clear hcz22_1
   try clear hcz22_2
   try clear hcz22_3
   try clear hcz22_4
   try clear hcz28_0
   try clear hcz28_1
   try clear hcz28_2
   try clear hcz28_3
   try clear hcz28_4
   try clear hcz29_0
   try clear hcz29_1
   try clear hcz29_2
   try clear hcz29_3
   try clear hcz29_4
   try clear hcz34_0
   try clear hcz34_1
   try clear hcz34_2
   try clear hcz34_3
   try clear hcz34_4
   try clear hcz35_0
   try clear hcz35_1
   try clear hcz35_2
   try clear hcz35_3
   try clear hcz35_4
   try clear hcz40_0
   try clear hcz40_1
   try clear hcz40_2
   try clear hcz40_3
   try clear hcz40_4
   try clear hcz41_0
   try clear hcz41_1
   try clear hcz41_2
   try clear hcz41_3
   try clear hcz41_4
   try clear hfz16_0
   try clear hfz16_1
   try clear hfz16_2
   try clear hfz16_3
   try clear hfz16_4
   try clear hfz22_0
   try clear hfz22_1
   try clear hfz22_2
   try clear hfz22_3
   try clear hfz22_4
   try clear hfz28_0
   try clear hfz28_1
   try clear hfz28_2
   try clear hfz28_3
   try clear hfz28_4
   try clear hfz29_0
   try clear hfz29_1
   try clear hfz29_2
   try clear hfz29_3
   try clear hfz29_4
   try clear hfz34_0
   try clear hfz34_1
   try clear hfz34_2
   try clear hfz34_3
   try clear hfz34_4
   try clear hfz35_0
   try clear hfz35_1
   try clear hfz35_2
   try clear hfz35_3
   try clear hfz35_4
   try clear hfz40_0
   try clear hfz40_1
   try clear hfz40_2
   try clear hfz40_3
   try clear hfz40_4
   try clear hfz41_0
   try clear hfz41_1
   try clear hfz41_2
   try clear hfz41_3
   try clear hfz41_4
   obtain ⟨kq, x55_9, rfl, HA, HJ9, HO_7, HO_9, HO_11, BK730, BK743, HB⟩ := hcut
   cases kq with
   | zero => exact absurd HA.out (by simp [laws_FnExactShowSlot.j0])
   | succ kj9 =>
    have H := HA.out
    clear HA
    simp only [laws_FnExactShowSlot.j0] at H
    by_cases c43 : x55_9 = true
    ·subst c43
     have H1 : (some false) = some r := by rw [if_pos rfl] at H; exact H
     clear H
     have H := H1
     clear H1
     obtain rfl := Option.some.inj H
     go_wp2
     go_ret
     exact ⟨by first | rfl | (simp [errW_none, errW_some] <;> rfl) | (simp [*, errW_none, errW_some] <;> rfl), by repeat (first | (with_reducible first | exact HB.out | apply below_alloc | apply pw_below_drewN | apply below_drew1 | refine below_set ?_ GE730.out | refine below_set ?_ GE743.out) | exact HB.out)⟩
    ·replace c43 := Bool.eq_false_iff.mpr c43
     subst c43
     have H1 : ((laws_toSlotS.f kj9 l0).bind fun t746 => ((laws_eqSlotS.f kj9 t731 t746).bind fun t749 => (if t749 = true then ((laws_markSlotS.f kj9 t731 1).bind fun bt750 => (if bt750.1 < 0 then (laws_FnExactShowSlot.j1 kj9 l0 a1 t726 t729 t739 true t721 t722 t723 t724 t725) else ((laws_eqSlot.f t734 t735 t736 t737 t738 t721 t722 t723 t724 t725).bind fun t752 => (if t752 = true then ((laws_eqStringS.f kj9 t739 t726).bind fun t753 => (if t753 = true then (laws_FnExactShowSlot.j1 kj9 l0 a1 t726 t729 t739 (t742 != t729) t721 t722 t723 t724 t725) else (laws_FnExactShowSlot.j1 kj9 l0 a1 t726 t729 t739 true t721 t722 t723 t724 t725))) else (laws_FnExactShowSlot.j1 kj9 l0 a1 t726 t729 t739 true t721 t722 t723 t724 t725))))) else (some false)))) = some r := by rw [if_neg (show ¬ (false = true) by decide)] at H; exact H
     clear H
     have H := H1
     clear H1
     replace H := Option.bind_eq_some_iff.mp H
     obtain ⟨t746, A440, H⟩ := H
     replace H : ((laws_eqSlotS.f kj9 t731 t746).bind fun t749 => (if t749 = true then ((laws_markSlotS.f kj9 t731 1).bind fun bt750 => (if bt750.1 < 0 then (laws_FnExactShowSlot.j1 kj9 l0 a1 t726 t729 t739 true t721 t722 t723 t724 t725) else ((laws_eqSlot.f t734 t735 t736 t737 t738 t721 t722 t723 t724 t725).bind fun t752 => (if t752 = true then ((laws_eqStringS.f kj9 t739 t726).bind fun t753 => (if t753 = true then (laws_FnExactShowSlot.j1 kj9 l0 a1 t726 t729 t739 (t742 != t729) t721 t722 t723 t724 t725) else (laws_FnExactShowSlot.j1 kj9 l0 a1 t726 t729 t739 true t721 t722 t723 t724 t725))) else (laws_FnExactShowSlot.j1 kj9 l0 a1 t726 t729 t739 true t721 t722 t723 t724 t725))))) else (some false))) = some r := H
     have A44 := Aside0.mk A440
     clear A440
     replace H := Option.bind_eq_some_iff.mp H
     obtain ⟨t749, A450, H⟩ := H
     replace H : (if t749 = true then ((laws_markSlotS.f kj9 t731 1).bind fun bt750 => (if bt750.1 < 0 then (laws_FnExactShowSlot.j1 kj9 l0 a1 t726 t729 t739 true t721 t722 t723 t724 t725) else ((laws_eqSlot.f t734 t735 t736 t737 t738 t721 t722 t723 t724 t725).bind fun t752 => (if t752 = true then ((laws_eqStringS.f kj9 t739 t726).bind fun t753 => (if t753 = true then (laws_FnExactShowSlot.j1 kj9 l0 a1 t726 t729 t739 (t742 != t729) t721 t722 t723 t724 t725) else (laws_FnExactShowSlot.j1 kj9 l0 a1 t726 t729 t739 true t721 t722 t723 t724 t725))) else (laws_FnExactShowSlot.j1 kj9 l0 a1 t726 t729 t739 true t721 t722 t723 t724 t725))))) else (some false)) = some r := H
     have A45 := Aside0.mk A450
     clear A450
     by_cases c46 : t749 = true
     ·subst c46
      have H1 : ((laws_markSlotS.f kj9 t731 1).bind fun bt750 => (if bt750.1 < 0 then (laws_FnExactShowSlot.j1 kj9 l0 a1 t726 t729 t739 true t721 t722 t723 t724 t725) else ((laws_eqSlot.f t734 t735 t736 t737 t738 t721 t722 t723 t724 t725).bind fun t752 => (if t752 = true then ((laws_eqStringS.f kj9 t739 t726).bind fun t753 => (if t753 = true then (laws_FnExactShowSlot.j1 kj9 l0 a1 t726 t729 t739 (t742 != t729) t721 t722 t723 t724 t725) else (laws_FnExactShowSlot.j1 kj9 l0 a1 t726 t729 t739 true t721 t722 t723 t724 t725))) else (laws_FnExactShowSlot.j1 kj9 l0 a1 t726 t729 t739 true t721 t722 t723 t724 t725))))) = some r := by rw [if_pos rfl] at H; exact H
      clear H
      have H := H1
      clear H1
      replace H := Option.bind_eq_some_iff.mp H
      obtain ⟨⟨t750, t751⟩, A470, H⟩ := H
      replace H : (if t750 < 0 then (laws_FnExactShowSlot.j1 kj9 l0 a1 t726 t729 t739 true t721 t722 t723 t724 t725) else ((laws_eqSlot.f t734 t735 t736 t737 t738 t721 t722 t723 t724 t725).bind fun t752 => (if t752 = true then ((laws_eqStringS.f kj9 t739 t726).bind fun t753 => (if t753 = true then (laws_FnExactShowSlot.j1 kj9 l0 a1 t726 t729 t739 (t742 != t729) t721 t722 t723 t724 t725) else (laws_FnExactShowSlot.j1 kj9 l0 a1 t726 t729 t739 true t721 t722 t723 t724 t725))) else (laws_FnExactShowSlot.j1 kj9 l0 a1 t726 t729 t739 true t721 t722 t723 t724 t725)))) = some r := H
      have A47 := Aside0.mk A470
      clear A470
      have HC48 := Aside0.mk H
      clear H
      go_upto_region 14 with (first | ((with_reducible refine gate_callee (f := 17) rfl ?_); refine goesL_ (some 58) rfl rfl Try.func17 (by kernel_rfl) rfl #[.slice A0 l0.length c0] rfl (by (try simp only [List.map_toArray, List.map_cons, List.map_nil]); first | done | rfl | (simp only [List.length_drop, List.length_take]; rfl)) ?_; (with_reducible refine (laws_toSlotS.calls kj9 _ _ l0 t746 _ ?side1 ?side2 A44.out).mono ?_); (case side1 => repeat (first | exact (Kd.C_below HR0.out HB.out) | (with_reducible refine Kd.C_alloc ?_ _) | (with_reducible refine Kd.C_drewN ?_ _) | (with_reducible refine Kd.C_drew ?_))); (case side2 => exact HC0.out); rintro e w49 ⟨v747, rfl, ho0, hb⟩; refine ⟨_, rfl, ?_⟩; have n0_ := Aside0.mk (Kd.R_below (by (with_reducible repeat (first | apply Kd.R_alloc | apply Kd.R_drewN | apply Kd.R_drew)); exact HO_7.out) hb); have n1_ := Aside0.mk (Kd.R_elder' (by (with_reducible repeat (first | apply Kd.R_alloc | apply Kd.R_drewN | apply Kd.R_drew)); exact HO_9.out) (Kd.R_base ho0) hb); have n2_ := Aside0.mk (Kd.R_below (by (with_reducible repeat (first | apply Kd.R_alloc | apply Kd.R_drewN | apply Kd.R_drew)); exact HO_11.out) hb); have n3_ := Aside0.mk (Kd.R_lower (Kd.R_newB (Kd.R_newB (Kd.R_new' ho0 (Kd.R_lt (by (with_reducible repeat (first | apply Kd.R_alloc | apply Kd.R_drewN | apply Kd.R_drew)); exact HO_9.out))) (g := gb730) (o := .cells #[.string t721, .string t722, .string t723, .string t724, .bool t725] 72 (0, 0)) (by (with_reducible repeat (first | refine blk_drewN ?_ _ | refine blk_drew ?_ | refine blk_alloc ?_ _)); exact BK730.out)) (g := gb743) (o := .cells #[.string t734, .string t735, .string t736, .string t737, .bool t738] 72 (0, 0)) (by (with_reducible repeat (first | refine blk_drewN ?_ _ | refine blk_drew ?_ | refine blk_alloc ?_ _)); exact BK743.out)) (below_size (by repeat (first | (with_reducible first | exact HB.out | apply below_alloc | apply pw_below_drewN | apply below_drew1 | refine below_set ?_ GE730.out | refine below_set ?_ GE743.out) | exact HB.out)))); have n4_ := Aside0.mk (blk_below (g := gb730) (o := .cells #[.string t721, .string t722, .string t723, .string t724, .bool t725] 72 (0, 0)) (by (with_reducible repeat (first | refine blk_drewN ?_ _ | refine blk_drew ?_ | refine blk_alloc ?_ _)); exact BK730.out) hb); have n5_ := Aside0.mk (blk_below (g := gb743) (o := .cells #[.string t734, .string t735, .string t736, .string t737, .bool t738] 72 (0, 0)) (by (with_reducible repeat (first | refine blk_drewN ?_ _ | refine blk_drew ?_ | refine blk_alloc ?_ _)); exact BK743.out) hb); have n6_ := Aside0.mk (below_step (by repeat (first | (with_reducible first | exact HB.out | apply below_alloc | apply pw_below_drewN | apply below_drew1 | refine below_set ?_ GE730.out | refine below_set ?_ GE743.out) | exact HB.out)) hb); clear HO_7; clear HO_9; clear HO_11; clear BK730; clear BK743; clear HB; have HO_7 := n0_; have HO_9 := n1_; have HO_11 := n2_; have HO748 := n3_; have BK730 := n4_; have BK743 := n5_; have HB := n6_; clear n0_ n1_ n2_ n3_ n4_ n5_ n6_; (try clear hb); (try clear hb2); (try clear hk); (try clear hi); (try clear ho0); obtain ⟨Ao50, co50, eo50⟩ := Kd.R_slice HO748.out; subst eo50) | ((with_reducible refine gate_callee (f := 19) rfl ?_); refine goesL_ (some 59) rfl rfl Try.func19 (by kernel_rfl) rfl #[.slice Ao18 t731.length co18, .slice Ao50 t746.length co50] rfl (by (try simp only [List.map_toArray, List.map_cons, List.map_nil]); first | done | rfl | (simp only [List.length_drop, List.length_take]; rfl)) ?_; (with_reducible refine (laws_eqSlotS.calls kj9 _ _ t731 _ _ t746 true _ ?side1 ?side2 ?side3 ?side4 A45.out).mono ?_); (case side1 => repeat (first | exact (Kd.R_reads' HO_9.out).2.2 | (with_reducible refine Kd.C_alloc ?_ _) | (with_reducible refine Kd.C_drewN ?_ _) | (with_reducible refine Kd.C_drew ?_))); (case side2 => exact (Kd.R_reads' HO_9.out).2.1); (case side3 => repeat (first | exact (Kd.R_reads' HO748.out).2.2 | (with_reducible refine Kd.C_alloc ?_ _) | (with_reducible refine Kd.C_drewN ?_ _) | (with_reducible refine Kd.C_drew ?_))); (case side4 => exact (Kd.R_reads' HO748.out).2.1); rintro e w51 ⟨rfl, hb⟩; refine ⟨_, rfl, ?_⟩; have n0_ := Aside0.mk (Kd.R_below (by (with_reducible repeat (first | apply Kd.R_alloc | apply Kd.R_drewN | apply Kd.R_drew)); exact HO_7.out) hb); have n1_ := Aside0.mk (Kd.R_below (by (with_reducible repeat (first | apply Kd.R_alloc | apply Kd.R_drewN | apply Kd.R_drew)); exact HO_9.out) hb); have n2_ := Aside0.mk (Kd.R_below (by (with_reducible repeat (first | apply Kd.R_alloc | apply Kd.R_drewN | apply Kd.R_drew)); exact HO_11.out) hb); have n3_ := Aside0.mk (Kd.R_below (by (with_reducible repeat (first | apply Kd.R_alloc | apply Kd.R_drewN | apply Kd.R_drew)); exact HO748.out) hb); have n4_ := Aside0.mk (blk_below (g := gb730) (o := .cells #[.string t721, .string t722, .string t723, .string t724, .bool t725] 72 (0, 0)) (by (with_reducible repeat (first | refine blk_drewN ?_ _ | refine blk_drew ?_ | refine blk_alloc ?_ _)); exact BK730.out) hb); have n5_ := Aside0.mk (blk_below (g := gb743) (o := .cells #[.string t734, .string t735, .string t736, .string t737, .bool t738] 72 (0, 0)) (by (with_reducible repeat (first | refine blk_drewN ?_ _ | refine blk_drew ?_ | refine blk_alloc ?_ _)); exact BK743.out) hb); have n6_ := Aside0.mk (below_step (by repeat (first | (with_reducible first | exact HB.out | apply below_alloc | apply pw_below_drewN | apply below_drew1 | refine below_set ?_ GE730.out | refine below_set ?_ GE743.out) | exact HB.out)) hb); clear HO_7; clear HO_9; clear HO_11; clear HO748; clear BK730; clear BK743; clear HB; have HO_7 := n0_; have HO_9 := n1_; have HO_11 := n2_; have HO748 := n3_; have BK730 := n4_; have BK743 := n5_; have HB := n6_; clear n0_ n1_ n2_ n3_ n4_ n5_ n6_; (try clear hb); (try clear hb2); (try clear hk); (try clear hi)) | ((with_reducible refine gate_callee (f := 63) rfl ?_); refine goesL_ (some 63) rfl rfl Try.func63 (by kernel_rfl) rfl #[.slice Ao18 t731.length co18, .int .i64 1] rfl (by (try simp only [List.map_toArray, List.map_cons, List.map_nil]); first | done | rfl | (simp only [List.length_drop, List.length_take]; rfl)) ?_; (with_reducible refine (laws_markSlotS.calls kj9 (fun k_ => some k_ = (.slice Ao18 t731.length co18 : Value).ownBlock) (.slice Ao18 t731.length co18) t731 1 t750 t751 w _ ?side1 ?side2 A47.out).mono ?_); (case side1 => repeat (first | (with_reducible first | exact HB.out | apply below_alloc | apply pw_below_drewN | apply below_drew1 | refine below_set ?_ GE730.out | refine below_set ?_ GE743.out) | exact HB.out)); (case side2 => exact Kd.R_tight rfl HO_9.out); rintro e w52 ⟨rfl, hy0, hb, hkp⟩; refine ⟨_, rfl, ?_⟩; have n0_ := Aside0.mk (Kd.R_mono (ok' := fun k_ => some k_ ≠ (v740 : Value).ownBlock) (Kd.R_keptB ((Kd.R_apart' HO_7.out (Kd.R_typed HO_9.out) (by decide))) hkp (fun k_ hk_ hs_ => (hk_.2) hs_)) (fun k_ hk_ => hk_.1.1)); have n1_ := Aside0.mk (Kd.R_reok rfl hy0 (fun k_ e_ => HO_9.out.1 k_ e_)); have n2_ := Aside0.mk (Kd.R_mono (ok' := fun k_ => some k_ ≠ (v727 : Value).ownBlock) (Kd.R_keptB ((Kd.R_apart' HO_11.out (Kd.R_typed HO_9.out) (by decide))) hkp (fun k_ hk_ hs_ => (hk_.2) hs_)) (fun k_ hk_ => hk_.1.1)); have n3_ := Aside0.mk (blk_kept (by (with_reducible repeat (first | refine blk_drewN ?_ _ | refine blk_drew ?_ | refine blk_alloc ?_ _)); exact BK730.out) hkp (fun hs_ => (fun e_ => (Kd.R_away HO_9.out (fun _ hk => hk.1.1)) e_) hs_)); have n4_ := Aside0.mk (blk_kept (by (with_reducible repeat (first | refine blk_drewN ?_ _ | refine blk_drew ?_ | refine blk_alloc ?_ _)); exact BK743.out) hkp (fun hs_ => (fun e_ => (Kd.R_away HO_9.out (fun _ hk => hk.1.2)) e_) hs_)); have n5_ := Aside0.mk (Kd.R_mono (ok' := fun k_ => some k_ ≠ (.slice Ao18 t731.length co18 : Value).ownBlock ∧ k_ ≠ gb730 ∧ k_ ≠ gb743) (Kd.R_keptB (HO748.out) hkp (fun k_ hk_ hs_ => (hk_.1.1.2) hs_)) (fun k_ hk_ => ⟨hk_.1.1.1.2, hk_.1.1.2, hk_.1.2⟩)); have n6_ := Aside0.mk (hb); clear HO_7; clear HO_9; clear HO_11; clear BK730; clear BK743; clear HO748; clear HB; have HO_7 := n0_; have HO_9 := n1_; have HO_11 := n2_; have BK730 := n3_; have BK743 := n4_; have HO748 := n5_; have HB := n6_; clear n0_ n1_ n2_ n3_ n4_ n5_ n6_; (try clear hb); (try clear hkp); (try clear hy0)))
      (try simp only [Act.put, List.setIfInBounds_toArray, List.set_cons_zero, List.set_cons_succ])
      go_cut [82] (fun v82 wc => ∃ (kq : Nat) (x82_47 : Bool), v82 = .bool x82_47 ∧ Aside0 (laws_FnExactShowSlot.j1 kq l0 a1 t726 t729 t739 x82_47 t721 t722 t723 t724 t725 = some r) ∧ Aside0 (kq ≤ kj9) ∧ Aside0 (Kd.R Kd.string 9 wc w.heap.size (fun k_ => some k_ ≠ (v740 : Value).ownBlock) v727 t726) ∧ Aside0 (Kd.R Kd.string 9 wc w.heap.size (fun k_ => some k_ ≠ (v727 : Value).ownBlock) v740 t739) ∧ Aside0 (wc.heap[gb730]? = some (.cells #[.string t721, .string t722, .string t723, .string t724, .bool t725] 72 (0, 0))) ∧ Aside0 (wc.heap[gb743]? = some (.cells #[.string t734, .string t735, .string t736, .string t737, .bool t738] 72 (0, 0))) ∧ Aside0 (Below w.heap.size w wc))
      case first =>
       have H := HC48.out
       clear HC48
       by_cases c53 : t750 < 0
       ·rw [if_pos c53] at H
        have c53b0 : decide (t750 < 0) = true := decide_eq_true c53
        clear c53
        (first | rw [c53b0] | (simp only [i64_w, i32_w]; rw [c53b0]) | skip)
        have H' := Aside0.mk H
        clear H
        go_wp2
        go_meet
        case rel => exact ⟨_, (true), (by first | rfl | (simp; done) | (simp [*]; done) | (simp [bne]; done)), H', ⟨by have := HJ9.out; first | omega | exact Nat.le_refl _⟩, ⟨by (with_reducible repeat (first | apply Kd.R_alloc | apply Kd.R_drewN | apply Kd.R_drew)); exact HO_7.out⟩, ⟨by (with_reducible repeat (first | apply Kd.R_alloc | apply Kd.R_drewN | apply Kd.R_drew)); exact HO_11.out⟩, ⟨by (with_reducible repeat (first | refine blk_drewN ?_ _ | refine blk_drew ?_ | refine blk_alloc ?_ _)); exact BK730.out⟩, ⟨by (with_reducible repeat (first | refine blk_drewN ?_ _ | refine blk_drew ?_ | refine blk_alloc ?_ _)); exact BK743.out⟩, ⟨by repeat (first | (with_reducible first | exact HB.out | apply below_alloc | apply pw_below_drewN | apply below_drew1 | refine below_set ?_ GE730.out | refine below_set ?_ GE743.out) | exact HB.out)⟩⟩
       ·rw [if_neg c53] at H
        have c53b0 : decide (t750 < 0) = false := decide_eq_false c53
        clear c53
        (first | rw [c53b0] | (simp only [i64_w, i32_w]; rw [c53b0]) | skip)
        replace H := Option.bind_eq_some_iff.mp H
        obtain ⟨t752, A540, H⟩ := H
        replace H : (if t752 = true then ((laws_eqStringS.f kj9 t739 t726).bind fun t753 => (if t753 = true then (laws_FnExactShowSlot.j1 kj9 l0 a1 t726 t729 t739 (t742 != t729) t721 t722 t723 t724 t725) else (laws_FnExactShowSlot.j1 kj9 l0 a1 t726 t729 t739 true t721 t722 t723 t724 t725))) else (laws_FnExactShowSlot.j1 kj9 l0 a1 t726 t729 t739 true t721 t722 t723 t724 t725)) = some r := H
        have A54 := Aside0.mk A540
        clear A540
        by_cases c55 : t752 = true
        ·subst c55
         have H1 : ((laws_eqStringS.f kj9 t739 t726).bind fun t753 => (if t753 = true then (laws_FnExactShowSlot.j1 kj9 l0 a1 t726 t729 t739 (t742 != t729) t721 t722 t723 t724 t725) else (laws_FnExactShowSlot.j1 kj9 l0 a1 t726 t729 t739 true t721 t722 t723 t724 t725))) = some r := by rw [if_pos rfl] at H; exact H
         clear H
         have H := H1
         clear H1
         replace H := Option.bind_eq_some_iff.mp H
         obtain ⟨t753, A560, H⟩ := H
         replace H : (if t753 = true then (laws_FnExactShowSlot.j1 kj9 l0 a1 t726 t729 t739 (t742 != t729) t721 t722 t723 t724 t725) else (laws_FnExactShowSlot.j1 kj9 l0 a1 t726 t729 t739 true t721 t722 t723 t724 t725)) = some r := H
         have A56 := Aside0.mk A560
         clear A560
         by_cases c57 : t753 = true
         ·subst c57
          have H1 : (laws_FnExactShowSlot.j1 kj9 l0 a1 t726 t729 t739 (t742 != t729) t721 t722 t723 t724 t725) = some r := by rw [if_pos rfl] at H; exact H
          clear H
          have H := H1
          clear H1
          have H' := Aside0.mk H
          clear H
          have hnb58 := NB743_730.out
          have hnc58 := NB730_743.out
          have hcz59_0 : w52.cell? ⟨gb743, 0, none⟩ = some (.string t734) := (blk_cell BK743.out 0).trans rfl
          have hcz59_1 : w52.cell? ⟨gb743, 1, none⟩ = some (.string t735) := (blk_cell BK743.out 1).trans rfl
          have hcz59_2 : w52.cell? ⟨gb743, 2, none⟩ = some (.string t736) := (blk_cell BK743.out 2).trans rfl
          have hcz59_3 : w52.cell? ⟨gb743, 3, none⟩ = some (.string t737) := (blk_cell BK743.out 3).trans rfl
          have hcz59_4 : w52.cell? ⟨gb743, 4, none⟩ = some (.bool t738) := (blk_cell BK743.out 4).trans rfl
          have hfz59_0 := blk_frozen BK743.out 0
          have hfz59_1 := blk_frozen BK743.out 1
          have hfz59_2 := blk_frozen BK743.out 2
          have hfz59_3 := blk_frozen BK743.out 3
          have hfz59_4 := blk_frozen BK743.out 4
          have hcz60_0 : w52.cell? ⟨gb730, 0, none⟩ = some (.string t721) := (blk_cell BK730.out 0).trans rfl
          have hcz60_1 : w52.cell? ⟨gb730, 1, none⟩ = some (.string t722) := (blk_cell BK730.out 1).trans rfl
          have hcz60_2 : w52.cell? ⟨gb730, 2, none⟩ = some (.string t723) := (blk_cell BK730.out 2).trans rfl
          have hcz60_3 : w52.cell? ⟨gb730, 3, none⟩ = some (.string t724) := (blk_cell BK730.out 3).trans rfl
          have hcz60_4 : w52.cell? ⟨gb730, 4, none⟩ = some (.bool t725) := (blk_cell BK730.out 4).trans rfl
          have hfz60_0 := blk_frozen BK730.out 0
          have hfz60_1 := blk_frozen BK730.out 1
          have hfz60_2 := blk_frozen BK730.out 2
          have hfz60_3 := blk_frozen BK730.out 3
          have hfz60_4 := blk_frozen BK730.out 4
          go_wp2_with (first | (go_at_call 66; (with_reducible refine (laws_eqSlot.calls t734 t735 t736 t737 t738 t721 t722 t723 t724 t725 true _ A54.out).mono ?_); rintro e w61 ⟨rfl, hb⟩; have n0_ := Aside0.mk (Kd.R_below (by (with_reducible repeat (first | apply Kd.R_alloc | apply Kd.R_drewN | apply Kd.R_drew)); exact HO_7.out) hb); have n1_ := Aside0.mk (Kd.R_below (by (with_reducible repeat (first | apply Kd.R_alloc | apply Kd.R_drewN | apply Kd.R_drew)); exact HO_9.out) hb); have n2_ := Aside0.mk (Kd.R_below (by (with_reducible repeat (first | apply Kd.R_alloc | apply Kd.R_drewN | apply Kd.R_drew)); exact HO_11.out) hb); have n3_ := Aside0.mk (Kd.R_below (by (with_reducible repeat (first | apply Kd.R_alloc | apply Kd.R_drewN | apply Kd.R_drew)); exact HO748.out) hb); have n4_ := Aside0.mk (blk_below (g := gb730) (o := .cells #[.string t721, .string t722, .string t723, .string t724, .bool t725] 72 (0, 0)) (by (with_reducible repeat (first | refine blk_drewN ?_ _ | refine blk_drew ?_ | refine blk_alloc ?_ _)); exact BK730.out) hb); have n5_ := Aside0.mk (blk_below (g := gb743) (o := .cells #[.string t734, .string t735, .string t736, .string t737, .bool t738] 72 (0, 0)) (by (with_reducible repeat (first | refine blk_drewN ?_ _ | refine blk_drew ?_ | refine blk_alloc ?_ _)); exact BK743.out) hb); have n6_ := Aside0.mk (below_step (by repeat (first | (with_reducible first | exact HB.out | apply below_alloc | apply pw_below_drewN | apply below_drew1 | refine below_set ?_ GE730.out | refine below_set ?_ GE743.out) | exact HB.out)) hb); clear HO_7; clear HO_9; clear HO_11; clear HO748; clear BK730; clear BK743; clear HB; have HO_7 := n0_; have HO_9 := n1_; have HO_11 := n2_; have HO748 := n3_; have BK730 := n4_; have BK743 := n5_; have HB := n6_; clear n0_ n1_ n2_ n3_ n4_ n5_ n6_; (try clear hb); (try clear hb2); (try clear hk); (try clear hi); obtain ⟨Ao62, co62, eo62⟩ := Kd.R_slice HO_11.out; subst eo62; obtain ⟨Ao63, co63, eo63⟩ := Kd.R_slice HO_7.out; subst eo63) | (go_at_call 67; (with_reducible refine (laws_eqStringS.calls kj9 _ _ t739 _ _ t726 true _ ?side1 ?side2 ?side3 ?side4 A56.out).mono ?_); (case side1 => repeat (first | exact (Kd.R_reads' HO_11.out).2.2 | (with_reducible refine Kd.C_alloc ?_ _) | (with_reducible refine Kd.C_drewN ?_ _) | (with_reducible refine Kd.C_drew ?_))); (case side2 => exact (Kd.R_reads' HO_11.out).2.1); (case side3 => repeat (first | exact (Kd.R_reads' HO_7.out).2.2 | (with_reducible refine Kd.C_alloc ?_ _) | (with_reducible refine Kd.C_drewN ?_ _) | (with_reducible refine Kd.C_drew ?_))); (case side4 => exact (Kd.R_reads' HO_7.out).2.1); rintro e w' ⟨rfl, ⟨nd, rfl⟩⟩))
          go_meet
          case rel => exact ⟨_, ((t742 != t729)), (by first | rfl | (simp; done) | (simp [*]; done) | (simp [bne]; done)), H', ⟨by have := HJ9.out; first | omega | exact Nat.le_refl _⟩, ⟨by (with_reducible repeat (first | apply Kd.R_alloc | apply Kd.R_drewN | apply Kd.R_drew)); exact HO_7.out⟩, ⟨by (with_reducible repeat (first | apply Kd.R_alloc | apply Kd.R_drewN | apply Kd.R_drew)); exact HO_11.out⟩, ⟨by (with_reducible repeat (first | refine blk_drewN ?_ _ | refine blk_drew ?_ | refine blk_alloc ?_ _)); exact BK730.out⟩, ⟨by (with_reducible repeat (first | refine blk_drewN ?_ _ | refine blk_drew ?_ | refine blk_alloc ?_ _)); exact BK743.out⟩, ⟨by repeat (first | (with_reducible first | exact HB.out | apply below_alloc | apply pw_below_drewN | apply below_drew1 | refine below_set ?_ GE730.out | refine below_set ?_ GE743.out) | exact HB.out)⟩⟩
         ·replace c57 := Bool.eq_false_iff.mpr c57
          subst c57
          have H1 : (laws_FnExactShowSlot.j1 kj9 l0 a1 t726 t729 t739 true t721 t722 t723 t724 t725) = some r := by rw [if_neg (show ¬ (false = true) by decide)] at H; exact H
          clear H
          have H := H1
          clear H1
          have H' := Aside0.mk H
          clear H
          have hnb64 := NB743_730.out
          have hnc64 := NB730_743.out
          have hcz65_0 : w52.cell? ⟨gb743, 0, none⟩ = some (.string t734) := (blk_cell BK743.out 0).trans rfl
          have hcz65_1 : w52.cell? ⟨gb743, 1, none⟩ = some (.string t735) := (blk_cell BK743.out 1).trans rfl
          have hcz65_2 : w52.cell? ⟨gb743, 2, none⟩ = some (.string t736) := (blk_cell BK743.out 2).trans rfl
          have hcz65_3 : w52.cell? ⟨gb743, 3, none⟩ = some (.string t737) := (blk_cell BK743.out 3).trans rfl
          have hcz65_4 : w52.cell? ⟨gb743, 4, none⟩ = some (.bool t738) := (blk_cell BK743.out 4).trans rfl
          have hfz65_0 := blk_frozen BK743.out 0
          have hfz65_1 := blk_frozen BK743.out 1
          have hfz65_2 := blk_frozen BK743.out 2
          have hfz65_3 := blk_frozen BK743.out 3
          have hfz65_4 := blk_frozen BK743.out 4
          have hcz66_0 : w52.cell? ⟨gb730, 0, none⟩ = some (.string t721) := (blk_cell BK730.out 0).trans rfl
          have hcz66_1 : w52.cell? ⟨gb730, 1, none⟩ = some (.string t722) := (blk_cell BK730.out 1).trans rfl
          have hcz66_2 : w52.cell? ⟨gb730, 2, none⟩ = some (.string t723) := (blk_cell BK730.out 2).trans rfl
          have hcz66_3 : w52.cell? ⟨gb730, 3, none⟩ = some (.string t724) := (blk_cell BK730.out 3).trans rfl
          have hcz66_4 : w52.cell? ⟨gb730, 4, none⟩ = some (.bool t725) := (blk_cell BK730.out 4).trans rfl
          have hfz66_0 := blk_frozen BK730.out 0
          have hfz66_1 := blk_frozen BK730.out 1
          have hfz66_2 := blk_frozen BK730.out 2
          have hfz66_3 := blk_frozen BK730.out 3
          have hfz66_4 := blk_frozen BK730.out 4
          go_wp2_with (first | (go_at_call 66; (with_reducible refine (laws_eqSlot.calls t734 t735 t736 t737 t738 t721 t722 t723 t724 t725 true _ A54.out).mono ?_); rintro e w67 ⟨rfl, hb⟩; have n0_ := Aside0.mk (Kd.R_below (by (with_reducible repeat (first | apply Kd.R_alloc | apply Kd.R_drewN | apply Kd.R_drew)); exact HO_7.out) hb); have n1_ := Aside0.mk (Kd.R_below (by (with_reducible repeat (first | apply Kd.R_alloc | apply Kd.R_drewN | apply Kd.R_drew)); exact HO_9.out) hb); have n2_ := Aside0.mk (Kd.R_below (by (with_reducible repeat (first | apply Kd.R_alloc | apply Kd.R_drewN | apply Kd.R_drew)); exact HO_11.out) hb); have n3_ := Aside0.mk (Kd.R_below (by (with_reducible repeat (first | apply Kd.R_alloc | apply Kd.R_drewN | apply Kd.R_drew)); exact HO748.out) hb); have n4_ := Aside0.mk (blk_below (g := gb730) (o := .cells #[.string t721, .string t722, .string t723, .string t724, .bool t725] 72 (0, 0)) (by (with_reducible repeat (first | refine blk_drewN ?_ _ | refine blk_drew ?_ | refine blk_alloc ?_ _)); exact BK730.out) hb); have n5_ := Aside0.mk (blk_below (g := gb743) (o := .cells #[.string t734, .string t735, .string t736, .string t737, .bool t738] 72 (0, 0)) (by (with_reducible repeat (first | refine blk_drewN ?_ _ | refine blk_drew ?_ | refine blk_alloc ?_ _)); exact BK743.out) hb); have n6_ := Aside0.mk (below_step (by repeat (first | (with_reducible first | exact HB.out | apply below_alloc | apply pw_below_drewN | apply below_drew1 | refine below_set ?_ GE730.out | refine below_set ?_ GE743.out) | exact HB.out)) hb); clear HO_7; clear HO_9; clear HO_11; clear HO748; clear BK730; clear BK743; clear HB; have HO_7 := n0_; have HO_9 := n1_; have HO_11 := n2_; have HO748 := n3_; have BK730 := n4_; have BK743 := n5_; have HB := n6_; clear n0_ n1_ n2_ n3_ n4_ n5_ n6_; (try clear hb); (try clear hb2); (try clear hk); (try clear hi); obtain ⟨Ao68, co68, eo68⟩ := Kd.R_slice HO_11.out; subst eo68; obtain ⟨Ao69, co69, eo69⟩ := Kd.R_slice HO_7.out; subst eo69) | (go_at_call 67; (with_reducible refine (laws_eqStringS.calls kj9 _ _ t739 _ _ t726 false _ ?side1 ?side2 ?side3 ?side4 A56.out).mono ?_); (case side1 => repeat (first | exact (Kd.R_reads' HO_11.out).2.2 | (with_reducible refine Kd.C_alloc ?_ _) | (with_reducible refine Kd.C_drewN ?_ _) | (with_reducible refine Kd.C_drew ?_))); (case side2 => exact (Kd.R_reads' HO_11.out).2.1); (case side3 => repeat (first | exact (Kd.R_reads' HO_7.out).2.2 | (with_reducible refine Kd.C_alloc ?_ _) | (with_reducible refine Kd.C_drewN ?_ _) | (with_reducible refine Kd.C_drew ?_))); (case side4 => exact (Kd.R_reads' HO_7.out).2.1); rintro e w' ⟨rfl, ⟨nd, rfl⟩⟩))
          go_meet
          case rel => exact ⟨_, (true), (by first | rfl | (simp; done) | (simp [*]; done) | (simp [bne]; done)), H', ⟨by have := HJ9.out; first | omega | exact Nat.le_refl _⟩, ⟨by (with_reducible repeat (first | apply Kd.R_alloc | apply Kd.R_drewN | apply Kd.R_drew)); exact HO_7.out⟩, ⟨by (with_reducible repeat (first | apply Kd.R_alloc | apply Kd.R_drewN | apply Kd.R_drew)); exact HO_11.out⟩, ⟨by (with_reducible repeat (first | refine blk_drewN ?_ _ | refine blk_drew ?_ | refine blk_alloc ?_ _)); exact BK730.out⟩, ⟨by (with_reducible repeat (first | refine blk_drewN ?_ _ | refine blk_drew ?_ | refine blk_alloc ?_ _)); exact BK743.out⟩, ⟨by repeat (first | (with_reducible first | exact HB.out | apply below_alloc | apply pw_below_drewN | apply below_drew1 | refine below_set ?_ GE730.out | refine below_set ?_ GE743.out) | exact HB.out)⟩⟩
        ·replace c55 := Bool.eq_false_iff.mpr c55
         subst c55
         have H1 : (laws_FnExactShowSlot.j1 kj9 l0 a1 t726 t729 t739 true t721 t722 t723 t724 t725) = some r := by rw [if_neg (show ¬ (false = true) by decide)] at H; exact H
         clear H
         have H := H1
         clear H1
         have H' := Aside0.mk H
         clear H
         have hnb70 := NB743_730.out
         have hnc70 := NB730_743.out
         have hcz71_0 : w52.cell? ⟨gb743, 0, none⟩ = some (.string t734) := (blk_cell BK743.out 0).trans rfl
         have hcz71_1 : w52.cell? ⟨gb743, 1, none⟩ = some (.string t735) := (blk_cell BK743.out 1).trans rfl
         have hcz71_2 : w52.cell? ⟨gb743, 2, none⟩ = some (.string t736) := (blk_cell BK743.out 2).trans rfl
         have hcz71_3 : w52.cell? ⟨gb743, 3, none⟩ = some (.string t737) := (blk_cell BK743.out 3).trans rfl
         have hcz71_4 : w52.cell? ⟨gb743, 4, none⟩ = some (.bool t738) := (blk_cell BK743.out 4).trans rfl
         have hfz71_0 := blk_frozen BK743.out 0
         have hfz71_1 := blk_frozen BK743.out 1
         have hfz71_2 := blk_frozen BK743.out 2
         have hfz71_3 := blk_frozen BK743.out 3
         have hfz71_4 := blk_frozen BK743.out 4
         have hcz72_0 : w52.cell? ⟨gb730, 0, none⟩ = some (.string t721) := (blk_cell BK730.out 0).trans rfl
         have hcz72_1 : w52.cell? ⟨gb730, 1, none⟩ = some (.string t722) := (blk_cell BK730.out 1).trans rfl
         have hcz72_2 : w52.cell? ⟨gb730, 2, none⟩ = some (.string t723) := (blk_cell BK730.out 2).trans rfl
         have hcz72_3 : w52.cell? ⟨gb730, 3, none⟩ = some (.string t724) := (blk_cell BK730.out 3).trans rfl
         have hcz72_4 : w52.cell? ⟨gb730, 4, none⟩ = some (.bool t725) := (blk_cell BK730.out 4).trans rfl
         have hfz72_0 := blk_frozen BK730.out 0
         have hfz72_1 := blk_frozen BK730.out 1
         have hfz72_2 := blk_frozen BK730.out 2
         have hfz72_3 := blk_frozen BK730.out 3
         have hfz72_4 := blk_frozen BK730.out 4
         go_wp2_with (first | (go_at_call 66; (with_reducible refine (laws_eqSlot.calls t734 t735 t736 t737 t738 t721 t722 t723 t724 t725 false _ A54.out).mono ?_); rintro e w73 ⟨rfl, hb⟩; have n0_ := Aside0.mk (Kd.R_below (by (with_reducible repeat (first | apply Kd.R_alloc | apply Kd.R_drewN | apply Kd.R_drew)); exact HO_7.out) hb); have n1_ := Aside0.mk (Kd.R_below (by (with_reducible repeat (first | apply Kd.R_alloc | apply Kd.R_drewN | apply Kd.R_drew)); exact HO_9.out) hb); have n2_ := Aside0.mk (Kd.R_below (by (with_reducible repeat (first | apply Kd.R_alloc | apply Kd.R_drewN | apply Kd.R_drew)); exact HO_11.out) hb); have n3_ := Aside0.mk (Kd.R_below (by (with_reducible repeat (first | apply Kd.R_alloc | apply Kd.R_drewN | apply Kd.R_drew)); exact HO748.out) hb); have n4_ := Aside0.mk (blk_below (g := gb730) (o := .cells #[.string t721, .string t722, .string t723, .string t724, .bool t725] 72 (0, 0)) (by (with_reducible repeat (first | refine blk_drewN ?_ _ | refine blk_drew ?_ | refine blk_alloc ?_ _)); exact BK730.out) hb); have n5_ := Aside0.mk (blk_below (g := gb743) (o := .cells #[.string t734, .string t735, .string t736, .string t737, .bool t738] 72 (0, 0)) (by (with_reducible repeat (first | refine blk_drewN ?_ _ | refine blk_drew ?_ | refine blk_alloc ?_ _)); exact BK743.out) hb); have n6_ := Aside0.mk (below_step (by repeat (first | (with_reducible first | exact HB.out | apply below_alloc | apply pw_below_drewN | apply below_drew1 | refine below_set ?_ GE730.out | refine below_set ?_ GE743.out) | exact HB.out)) hb); clear HO_7; clear HO_9; clear HO_11; clear HO748; clear BK730; clear BK743; clear HB; have HO_7 := n0_; have HO_9 := n1_; have HO_11 := n2_; have HO748 := n3_; have BK730 := n4_; have BK743 := n5_; have HB := n6_; clear n0_ n1_ n2_ n3_ n4_ n5_ n6_; (try clear hb); (try clear hb2); (try clear hk); (try clear hi)))
         go_meet
         case rel => exact ⟨_, (true), (by first | rfl | (simp; done) | (simp [*]; done) | (simp [bne]; done)), H', ⟨by have := HJ9.out; first | omega | exact Nat.le_refl _⟩, ⟨by (with_reducible repeat (first | apply Kd.R_alloc | apply Kd.R_drewN | apply Kd.R_drew)); exact HO_7.out⟩, ⟨by (with_reducible repeat (first | apply Kd.R_alloc | apply Kd.R_drewN | apply Kd.R_drew)); exact HO_11.out⟩, ⟨by (with_reducible repeat (first | refine blk_drewN ?_ _ | refine blk_drew ?_ | refine blk_alloc ?_ _)); exact BK730.out⟩, ⟨by (with_reducible repeat (first | refine blk_drewN ?_ _ | refine blk_drew ?_ | refine blk_alloc ?_ _)); exact BK743.out⟩, ⟨by repeat (first | (with_reducible first | exact HB.out | apply below_alloc | apply pw_below_drewN | apply below_drew1 | refine below_set ?_ GE730.out | refine below_set ?_ GE743.out) | exact HB.out)⟩⟩
      case rest =>
       clear HC48
       try clear c1
       try clear c2
       try clear p2
       try clear c3
       try clear c4
       try clear c4b0
       try clear c5
       try clear c6
       try clear c7
       try clear c12
       try clear c15
       try clear c17
       try clear c19
       try clear c21
       try clear c24
       try clear c26
       try clear c27
       try clear c33
       try clear c39
       try clear c43
       try clear c46
       try clear c50
       try clear c53
       try clear c53b0
       try clear c55
       try clear c57
       try clear c58
       try clear c63
       try clear c64
       try clear c65
       try clear c66
       try clear c70
       try clear hcz16_0
       try clear hcz16_1
       try clear hcz16_2
       try clear hcz16_3
       try clear hcz16_4
       try clear hcz22_0
       try clear hcz22_1
       try clear hcz22_2
       try clear hcz22_3
       try clear hcz22_4
       try clear hcz28_0
       try clear hcz28_1
       try clear hcz28_2
       try clear hcz28_3
       try clear hcz28_4
       try clear hcz29_0
       try clear hcz29_1
       try clear hcz29_2
       try clear hcz29_3
       try clear hcz29_4
       try clear hcz34_0
       try clear hcz34_1
       try clear hcz34_2
       try clear hcz34_3
       try clear hcz34_4
       try clear hcz35_0
       try clear hcz35_1
       try clear hcz35_2
       try clear hcz35_3
       try clear hcz35_4
       try clear hcz40_0
       try clear hcz40_1
       try clear hcz40_2
       try clear hcz40_3
       try clear hcz40_4
       try clear hcz41_0
       try clear hcz41_1
       try clear hcz41_2
       try clear hcz41_3
       try clear hcz41_4
       try clear hcz59_0
       try clear hcz59_1
       try clear hcz59_2
       try clear hcz59_3
       try clear hcz59_4
       try clear hcz60_0
       try clear hcz60_1
       try clear hcz60_2
       try clear hcz60_3
       try clear hcz60_4
       try clear hcz65_0
       try clear hcz65_1
       try clear hcz65_2
       try clear hcz65_3
       try clear hcz65_4
       try clear hcz66_0
       try clear hcz66_1
       try clear hcz66_2
       try clear hcz66_3
       try clear hcz66_4
       try clear hcz71_0
       try clear hcz71_1
       try clear hcz71_2
       try clear hcz71_3
       try clear hcz71_4
       try clear hcz72_0
       try clear hcz72_1
       try clear hcz72_2
       try clear hcz72_3
       try clear hcz72_4
       try clear hfz16_0
       try clear hfz16_1
       try clear hfz16_2
       try clear hfz16_3
       try clear hfz16_4
       try clear hfz22_0
       try clear hfz22_1
       try clear hfz22_2
       try clear hfz22_3
       try clear hfz22_4
       try clear hfz28_0
       try clear hfz28_1
       try clear hfz28_2
       try clear hfz28_3
       try clear hfz28_4
       try clear hfz29_0
       try clear hfz29_1
       try clear hfz29_2
       try clear hfz29_3
       try clear hfz29_4
       try clear hfz34_0
       try clear hfz34_1
       try clear hfz34_2
       try clear hfz34_3
       try clear hfz34_4
       try clear hfz35_0
       try clear hfz35_1
       try clear hfz35_2
       try clear hfz35_3
       try clear hfz35_4
       try clear hfz40_0
       try clear hfz40_1
       try clear hfz40_2
       try clear hfz40_3
       try clear hfz40_4
       try clear hfz41_0
       try clear hfz41_1
       try clear hfz41_2
       try clear hfz41_3
       try clear hfz41_4
       try clear hfz59_0
       try clear hfz59_1
       try clear hfz59_2
       try clear hfz59_3
       try clear hfz59_4
       try clear hfz60_0
       try clear hfz60_1
       try clear hfz60_2
       try clear hfz60_3
       try clear hfz60_4
       try clear hfz65_0
       try clear hfz65_1
       try clear hfz65_2
       try clear hfz65_3
       try clear hfz65_4
       try clear hfz66_0
       try clear hfz66_1
       try clear hfz66_2
       try clear hfz66_3
       try clear hfz66_4
       try clear hfz71_0
       try clear hfz71_1
       try clear hfz71_2
       try clear hfz71_3
       try clear hfz71_4
       try clear hfz72_0
       try clear hfz72_1
       try clear hfz72_2
       try clear hfz72_3
       try clear hfz72_4
       try clear p2
       obtain ⟨kq, x82_47, rfl, HA, HJ47, HO_7, HO_11, BK730, BK743, HB⟩ := hcut
       cases kq with
       | zero => exact absurd HA.out (by simp [laws_FnExactShowSlot.j1])
       | succ kj47 =>
        have H := HA.out
        clear HA
        simp only [laws_FnExactShowSlot.j1] at H
        by_cases c74 : x82_47 = true
        ·subst c74
         have H1 : (some false) = some r := by rw [if_pos rfl] at H; exact H
         clear H
         have H := H1
         clear H1
         obtain rfl := Option.some.inj H
         go_wp2
         go_ret
         exact ⟨by first | rfl | (simp [errW_none, errW_some] <;> rfl) | (simp [*, errW_none, errW_some] <;> rfl), by repeat (first | (with_reducible first | exact HB.out | apply below_alloc | apply pw_below_drewN | apply below_drew1 | refine below_set ?_ GE730.out | refine below_set ?_ GE743.out) | exact HB.out)⟩
        ·replace c74 := Bool.eq_false_iff.mpr c74
         subst c74
         have H1 : ((laws_markStringS.f kj47 t739 1).bind fun bt754 => ((laws_heldStringS.f kj47 bt754.2 1).bind fun t756 => (if t756 < 0 then (some false) else (if t756 = bt754.1 then ((laws_toSlotS.f kj47 l0).bind fun t757 => ((impl_ShowSlot.f kj47 t757 a1).bind fun bt760 => ((laws_eqSlot.f bt760.1 bt760.2.1 bt760.2.2.1 bt760.2.2.2.1 bt760.2.2.2.2.1 t721 t722 t723 t724 t725).bind fun t770 => (if t770 = true then ((laws_eqStringS.f kj47 bt760.2.2.2.2.2.1 t726).bind fun t771 => (if t771 = true then (laws_FnExactShowSlot.j2 kj47 bt754.2 bt754.1 (bt760.2.2.2.2.2.2 != t729)) else (laws_FnExactShowSlot.j2 kj47 bt754.2 bt754.1 true))) else (laws_FnExactShowSlot.j2 kj47 bt754.2 bt754.1 true))))) else (some false))))) = some r := by rw [if_neg (show ¬ (false = true) by decide)] at H; exact H
         clear H
         have H := H1
         clear H1
         replace H := Option.bind_eq_some_iff.mp H
         obtain ⟨⟨t754, t755⟩, A750, H⟩ := H
         replace H : ((laws_heldStringS.f kj47 t755 1).bind fun t756 => (if t756 < 0 then (some false) else (if t756 = t754 then ((laws_toSlotS.f kj47 l0).bind fun t757 => ((impl_ShowSlot.f kj47 t757 a1).bind fun bt760 => ((laws_eqSlot.f bt760.1 bt760.2.1 bt760.2.2.1 bt760.2.2.2.1 bt760.2.2.2.2.1 t721 t722 t723 t724 t725).bind fun t770 => (if t770 = true then ((laws_eqStringS.f kj47 bt760.2.2.2.2.2.1 t726).bind fun t771 => (if t771 = true then (laws_FnExactShowSlot.j2 kj47 t755 t754 (bt760.2.2.2.2.2.2 != t729)) else (laws_FnExactShowSlot.j2 kj47 t755 t754 true))) else (laws_FnExactShowSlot.j2 kj47 t755 t754 true))))) else (some false)))) = some r := H
         have A75 := Aside0.mk A750
         clear A750
         replace H := Option.bind_eq_some_iff.mp H
         obtain ⟨t756, A760, H⟩ := H
         replace H : (if t756 < 0 then (some false) else (if t756 = t754 then ((laws_toSlotS.f kj47 l0).bind fun t757 => ((impl_ShowSlot.f kj47 t757 a1).bind fun bt760 => ((laws_eqSlot.f bt760.1 bt760.2.1 bt760.2.2.1 bt760.2.2.2.1 bt760.2.2.2.2.1 t721 t722 t723 t724 t725).bind fun t770 => (if t770 = true then ((laws_eqStringS.f kj47 bt760.2.2.2.2.2.1 t726).bind fun t771 => (if t771 = true then (laws_FnExactShowSlot.j2 kj47 t755 t754 (bt760.2.2.2.2.2.2 != t729)) else (laws_FnExactShowSlot.j2 kj47 t755 t754 true))) else (laws_FnExactShowSlot.j2 kj47 t755 t754 true))))) else (some false))) = some r := H
         have A76 := Aside0.mk A760
         clear A760
         by_cases c77 : t756 < 0
         ·rw [if_pos c77] at H
          have c77b0 : decide (t756 < 0) = true := decide_eq_true c77
          clear c77
          obtain rfl := Option.some.inj H
          obtain ⟨Ao78, co78, eo78⟩ := Kd.R_slice HO_11.out
          subst eo78
          go_wp2_with (first | ((with_reducible refine gate_callee (f := 68) rfl ?_); refine goesL_ (some 85) rfl rfl Try.func68 (by kernel_rfl) rfl #[.slice Ao78 t739.length co78, .int .i64 1] rfl (by (try simp only [List.map_toArray, List.map_cons, List.map_nil]); first | done | rfl | (simp only [List.length_drop, List.length_take]; rfl)) ?_; (with_reducible refine (laws_markStringS.calls kj47 (fun k_ => some k_ = (.slice Ao78 t739.length co78 : Value).ownBlock) (.slice Ao78 t739.length co78) t739 1 t754 t755 w _ ?side1 ?side2 A75.out).mono ?_); (case side1 => repeat (first | (with_reducible first | exact HB.out | apply below_alloc | apply pw_below_drewN | apply below_drew1 | refine below_set ?_ GE730.out | refine below_set ?_ GE743.out) | exact HB.out)); (case side2 => exact Kd.R_tight rfl HO_11.out); rintro e w79 ⟨rfl, hy0, hb, hkp⟩; refine ⟨_, rfl, ?_⟩; have n0_ := Aside0.mk (Kd.R_mono (ok' := fun k_ => some k_ ≠ (.slice Ao78 t739.length co78 : Value).ownBlock) (Kd.R_keptB (HO_7.out) hkp (fun k_ hk_ hs_ => (hk_) hs_)) (fun k_ hk_ => hk_.1)); have n1_ := Aside0.mk (Kd.R_reok rfl hy0 (fun k_ e_ => HO_11.out.1 k_ e_)); have n2_ := Aside0.mk (blk_kept (by (with_reducible repeat (first | refine blk_drewN ?_ _ | refine blk_drew ?_ | refine blk_alloc ?_ _)); exact BK730.out) hkp (fun hs_ => (fun e_ => (Kd.R_ne HO_11.out BK730.out (by decide)) e_) hs_)); have n3_ := Aside0.mk (blk_kept (by (with_reducible repeat (first | refine blk_drewN ?_ _ | refine blk_drew ?_ | refine blk_alloc ?_ _)); exact BK743.out) hkp (fun hs_ => (fun e_ => (Kd.R_ne HO_11.out BK743.out (by decide)) e_) hs_)); have n4_ := Aside0.mk (hb); clear HO_7; clear HO_11; clear BK730; clear BK743; clear HB; have HO_7 := n0_; have HO_11 := n1_; have BK730 := n2_; have BK743 := n3_; have HB := n4_; clear n0_ n1_ n2_ n3_ n4_; (try clear hb); (try clear hkp); (try clear hy0)) | ((with_reducible refine gate_callee (f := 69) rfl ?_); refine goesL_ (some 88) rfl rfl Try.func69 (by kernel_rfl) rfl #[.slice Ao78 t755.length co78, .int .i64 1] rfl (by (try simp only [List.map_toArray, List.map_cons, List.map_nil]); first | done | (rw [show t755.length = t739.length from (Kd.R_reads' HO_11.out).1.symm] <;> rfl) | rfl | (simp only [List.length_drop, List.length_take]; rfl)) ?_; (with_reducible refine (laws_heldStringS.calls kj47 _ _ t755 1 t756 _ ?side1 ?side2 A76.out).mono ?_); (case side1 => repeat (first | exact (Kd.R_reads' HO_11.out).2.2 | (with_reducible refine Kd.C_alloc ?_ _) | (with_reducible refine Kd.C_drewN ?_ _) | (with_reducible refine Kd.C_drew ?_))); (case side2 => rw [show t755.length = t739.length from (Kd.R_reads' HO_11.out).1.symm]; exact (Kd.R_reads' HO_11.out).2.1); rintro e w80 ⟨rfl, hb⟩; refine ⟨_, rfl, ?_⟩; have n0_ := Aside0.mk (Kd.R_below (by (with_reducible repeat (first | apply Kd.R_alloc | apply Kd.R_drewN | apply Kd.R_drew)); exact HO_7.out) hb); have n1_ := Aside0.mk (Kd.R_below (by (with_reducible repeat (first | apply Kd.R_alloc | apply Kd.R_drewN | apply Kd.R_drew)); exact HO_11.out) hb); have n2_ := Aside0.mk (blk_below (g := gb730) (o := .cells #[.string t721, .string t722, .string t723, .string t724, .bool t725] 72 (0, 0)) (by (with_reducible repeat (first | refine blk_drewN ?_ _ | refine blk_drew ?_ | refine blk_alloc ?_ _)); exact BK730.out) hb); have n3_ := Aside0.mk (blk_below (g := gb743) (o := .cells #[.string t734, .string t735, .string t736, .string t737, .bool t738] 72 (0, 0)) (by (with_reducible repeat (first | refine blk_drewN ?_ _ | refine blk_drew ?_ | refine blk_alloc ?_ _)); exact BK743.out) hb); have n4_ := Aside0.mk (below_step (by repeat (first | (with_reducible first | exact HB.out | apply below_alloc | apply pw_below_drewN | apply below_drew1 | refine below_set ?_ GE730.out | refine below_set ?_ GE743.out) | exact HB.out)) hb); clear HO_7; clear HO_11; clear BK730; clear BK743; clear HB; have HO_7 := n0_; have HO_11 := n1_; have BK730 := n2_; have BK743 := n3_; have HB := n4_; clear n0_ n1_ n2_ n3_ n4_; (try clear hb); (try clear hb2); (try clear hk); (try clear hi)))
          go_ret
          exact ⟨by first | rfl | (simp [errW_none, errW_some] <;> rfl) | (simp [*, errW_none, errW_some] <;> rfl), by repeat (first | (with_reducible first | exact HB.out | apply below_alloc | apply pw_below_drewN | apply below_drew1 | refine below_set ?_ GE730.out | refine below_set ?_ GE743.out) | exact HB.out)⟩
         ·rw [if_neg c77] at H
          have c77b0 : decide (t756 < 0) = false := decide_eq_false c77
          clear c77
          by_cases c81 : t756 = t754
          ·rw [if_pos c81] at H
           have c81b0 : (t756 == t754) = true := beq_iff_eq.mpr c81
           have c81b1 : (t756 != t754) = false := bne_eq_false_iff_eq.mpr c81
           clear c81
           replace H := Option.bind_eq_some_iff.mp H
           obtain ⟨t757, A820, H⟩ := H
           replace H : ((impl_ShowSlot.f kj47 t757 a1).bind fun bt760 => ((laws_eqSlot.f bt760.1 bt760.2.1 bt760.2.2.1 bt760.2.2.2.1 bt760.2.2.2.2.1 t721 t722 t723 t724 t725).bind fun t770 => (if t770 = true then ((laws_eqStringS.f kj47 bt760.2.2.2.2.2.1 t726).bind fun t771 => (if t771 = true then (laws_FnExactShowSlot.j2 kj47 t755 t754 (bt760.2.2.2.2.2.2 != t729)) else (laws_FnExactShowSlot.j2 kj47 t755 t754 true))) else (laws_FnExactShowSlot.j2 kj47 t755 t754 true)))) = some r := H
           have A82 := Aside0.mk A820
           clear A820
           replace H := Option.bind_eq_some_iff.mp H
           obtain ⟨⟨t760, t761, t762, t763, t764, t765, t768⟩, A830, H⟩ := H
           replace H : ((laws_eqSlot.f t760 t761 t762 t763 t764 t721 t722 t723 t724 t725).bind fun t770 => (if t770 = true then ((laws_eqStringS.f kj47 t765 t726).bind fun t771 => (if t771 = true then (laws_FnExactShowSlot.j2 kj47 t755 t754 (t768 != t729)) else (laws_FnExactShowSlot.j2 kj47 t755 t754 true))) else (laws_FnExactShowSlot.j2 kj47 t755 t754 true))) = some r := H
           have A83 := Aside0.mk A830
           clear A830
           have HC84 := Aside0.mk H
           clear H
           obtain ⟨Ao85, co85, eo85⟩ := Kd.R_slice HO_11.out
           subst eo85
           go_upto_region 25 with (first | ((with_reducible refine gate_callee (f := 68) rfl ?_); refine goesL_ (some 85) rfl rfl Try.func68 (by kernel_rfl) rfl #[.slice Ao85 t739.length co85, .int .i64 1] rfl (by (try simp only [List.map_toArray, List.map_cons, List.map_nil]); first | done | rfl | (simp only [List.length_drop, List.length_take]; rfl)) ?_; (with_reducible refine (laws_markStringS.calls kj47 (fun k_ => some k_ = (.slice Ao85 t739.length co85 : Value).ownBlock) (.slice Ao85 t739.length co85) t739 1 t754 t755 w _ ?side1 ?side2 A75.out).mono ?_); (case side1 => repeat (first | (with_reducible first | exact HB.out | apply below_alloc | apply pw_below_drewN | apply below_drew1 | refine below_set ?_ GE730.out | refine below_set ?_ GE743.out) | exact HB.out)); (case side2 => exact Kd.R_tight rfl HO_11.out); rintro e w86 ⟨rfl, hy0, hb, hkp⟩; refine ⟨_, rfl, ?_⟩; have n0_ := Aside0.mk (Kd.R_mono (ok' := fun k_ => some k_ ≠ (.slice Ao85 t739.length co85 : Value).ownBlock) (Kd.R_keptB (HO_7.out) hkp (fun k_ hk_ hs_ => (hk_) hs_)) (fun k_ hk_ => hk_.1)); have n1_ := Aside0.mk (Kd.R_reok rfl hy0 (fun k_ e_ => HO_11.out.1 k_ e_)); have n2_ := Aside0.mk (blk_kept (by (with_reducible repeat (first | refine blk_drewN ?_ _ | refine blk_drew ?_ | refine blk_alloc ?_ _)); exact BK730.out) hkp (fun hs_ => (fun e_ => (Kd.R_ne HO_11.out BK730.out (by decide)) e_) hs_)); have n3_ := Aside0.mk (blk_kept (by (with_reducible repeat (first | refine blk_drewN ?_ _ | refine blk_drew ?_ | refine blk_alloc ?_ _)); exact BK743.out) hkp (fun hs_ => (fun e_ => (Kd.R_ne HO_11.out BK743.out (by decide)) e_) hs_)); have n4_ := Aside0.mk (hb); clear HO_7; clear HO_11; clear BK730; clear BK743; clear HB; have HO_7 := n0_; have HO_11 := n1_; have BK730 := n2_; have BK743 := n3_; have HB := n4_; clear n0_ n1_ n2_ n3_ n4_; (try clear hb); (try clear hkp); (try clear hy0)) | ((with_reducible refine gate_callee (f := 69) rfl ?_); refine goesL_ (some 88) rfl rfl Try.func69 (by kernel_rfl) rfl #[.slice Ao85 t755.length co85, .int .i64 1] rfl (by (try simp only [List.map_toArray, List.map_cons, List.map_nil]); first | done | (rw [show t755.length = t739.length from (Kd.R_reads' HO_11.out).1.symm] <;> rfl) | rfl | (simp only [List.length_drop, List.length_take]; rfl)) ?_; (with_reducible refine (laws_heldStringS.calls kj47 _ _ t755 1 t756 _ ?side1 ?side2 A76.out).mono ?_); (case side1 => repeat (first | exact (Kd.R_reads' HO_11.out).2.2 | (with_reducible refine Kd.C_alloc ?_ _) | (with_reducible refine Kd.C_drewN ?_ _) | (with_reducible refine Kd.C_drew ?_))); (case side2 => rw [show t755.length = t739.length from (Kd.R_reads' HO_11.out).1.symm]; exact (Kd.R_reads' HO_11.out).2.1); rintro e w87 ⟨rfl, hb⟩; refine ⟨_, rfl, ?_⟩; have n0_ := Aside0.mk (Kd.R_below (by (with_reducible repeat (first | apply Kd.R_alloc | apply Kd.R_drewN | apply Kd.R_drew)); exact HO_7.out) hb); have n1_ := Aside0.mk (Kd.R_below (by (with_reducible repeat (first | apply Kd.R_alloc | apply Kd.R_drewN | apply Kd.R_drew)); exact HO_11.out) hb); have n2_ := Aside0.mk (blk_below (g := gb730) (o := .cells #[.string t721, .string t722, .string t723, .string t724, .bool t725] 72 (0, 0)) (by (with_reducible repeat (first | refine blk_drewN ?_ _ | refine blk_drew ?_ | refine blk_alloc ?_ _)); exact BK730.out) hb); have n3_ := Aside0.mk (blk_below (g := gb743) (o := .cells #[.string t734, .string t735, .string t736, .string t737, .bool t738] 72 (0, 0)) (by (with_reducible repeat (first | refine blk_drewN ?_ _ | refine blk_drew ?_ | refine blk_alloc ?_ _)); exact BK743.out) hb); have n4_ := Aside0.mk (below_step (by repeat (first | (with_reducible first | exact HB.out | apply below_alloc | apply pw_below_drewN | apply below_drew1 | refine below_set ?_ GE730.out | refine below_set ?_ GE743.out) | exact HB.out)) hb); clear HO_7; clear HO_11; clear BK730; clear BK743; clear HB; have HO_7 := n0_; have HO_11 := n1_; have BK730 := n2_; have BK743 := n3_; have HB := n4_; clear n0_ n1_ n2_ n3_ n4_; (try clear hb); (try clear hb2); (try clear hk); (try clear hi)) | ((with_reducible refine gate_callee (f := 17) rfl ?_); refine goesL_ (some 96) rfl rfl Try.func17 (by kernel_rfl) rfl #[.slice A0 l0.length c0] rfl (by (try simp only [List.map_toArray, List.map_cons, List.map_nil]); first | done | rfl | (simp only [List.length_drop, List.length_take]; rfl)) ?_; (with_reducible refine (laws_toSlotS.calls kj47 _ _ l0 t757 _ ?side1 ?side2 A82.out).mono ?_); (case side1 => repeat (first | exact (Kd.C_below HR0.out HB.out) | (with_reducible refine Kd.C_alloc ?_ _) | (with_reducible refine Kd.C_drewN ?_ _) | (with_reducible refine Kd.C_drew ?_))); (case side2 => exact HC0.out); rintro e w88 ⟨v758, rfl, ho0, hb⟩; refine ⟨_, rfl, ?_⟩; have n0_ := Aside0.mk (Kd.R_below (by (with_reducible repeat (first | apply Kd.R_alloc | apply Kd.R_drewN | apply Kd.R_drew)); exact HO_7.out) hb); have n1_ := Aside0.mk (Kd.R_below (by (with_reducible repeat (first | apply Kd.R_alloc | apply Kd.R_drewN | apply Kd.R_drew)); exact HO_11.out) hb); have n2_ := Aside0.mk (Kd.R_lower (Kd.R_newB (Kd.R_newB ho0 (g := gb730) (o := .cells #[.string t721, .string t722, .string t723, .string t724, .bool t725] 72 (0, 0)) (by (with_reducible repeat (first | refine blk_drewN ?_ _ | refine blk_drew ?_ | refine blk_alloc ?_ _)); exact BK730.out)) (g := gb743) (o := .cells #[.string t734, .string t735, .string t736, .string t737, .bool t738] 72 (0, 0)) (by (with_reducible repeat (first | refine blk_drewN ?_ _ | refine blk_drew ?_ | refine blk_alloc ?_ _)); exact BK743.out)) (below_size (by repeat (first | (with_reducible first | exact HB.out | apply below_alloc | apply pw_below_drewN | apply below_drew1 | refine below_set ?_ GE730.out | refine below_set ?_ GE743.out) | exact HB.out)))); have n3_ := Aside0.mk (blk_below (g := gb730) (o := .cells #[.string t721, .string t722, .string t723, .string t724, .bool t725] 72 (0, 0)) (by (with_reducible repeat (first | refine blk_drewN ?_ _ | refine blk_drew ?_ | refine blk_alloc ?_ _)); exact BK730.out) hb); have n4_ := Aside0.mk (blk_below (g := gb743) (o := .cells #[.string t734, .string t735, .string t736, .string t737, .bool t738] 72 (0, 0)) (by (with_reducible repeat (first | refine blk_drewN ?_ _ | refine blk_drew ?_ | refine blk_alloc ?_ _)); exact BK743.out) hb); have n5_ := Aside0.mk (below_step (by repeat (first | (with_reducible first | exact HB.out | apply below_alloc | apply pw_below_drewN | apply below_drew1 | refine below_set ?_ GE730.out | refine below_set ?_ GE743.out) | exact HB.out)) hb); clear HO_7; clear HO_11; clear BK730; clear BK743; clear HB; have HO_7 := n0_; have HO_11 := n1_; have HO759 := n2_; have BK730 := n3_; have BK743 := n4_; have HB := n5_; clear n0_ n1_ n2_ n3_ n4_ n5_; (try clear hb); (try clear hb2); (try clear hk); (try clear hi); (try clear ho0); obtain ⟨Ao89, co89, eo89⟩ := Kd.R_slice HO759.out; subst eo89) | ((with_reducible refine gate_callee (f := 50) rfl ?_); refine goesL_ (some 98) rfl rfl Try.func50 (by kernel_rfl) rfl #[.slice Ao89 t757.length co89, .int .i64 a1] rfl (by (try simp only [List.map_toArray, List.map_cons, List.map_nil]); first | done | rfl | (simp only [List.length_drop, List.length_take]; rfl)) ?_; (with_reducible refine (impl_ShowSlot.calls kj47 _ _ t757 a1 t760 t761 t762 t763 t764 t765 t768 _ ?side1 ?side2 A83.out).mono ?_); (case side1 => repeat (first | exact (Kd.R_reads' HO759.out).2.2 | (with_reducible refine Kd.C_alloc ?_ _) | (with_reducible refine Kd.C_drewN ?_ _) | (with_reducible refine Kd.C_drew ?_))); (case side2 => exact (Kd.R_reads' HO759.out).2.1); rintro e w90 ⟨v766, rfl, ho0, hb⟩; refine ⟨_, rfl, ?_⟩; have n0_ := Aside0.mk (Kd.R_elder' (by (with_reducible repeat (first | apply Kd.R_alloc | apply Kd.R_drewN | apply Kd.R_drew)); exact HO_7.out) (Kd.R_base ho0) hb); have n1_ := Aside0.mk (Kd.R_elder' (by (with_reducible repeat (first | apply Kd.R_alloc | apply Kd.R_drewN | apply Kd.R_drew)); exact HO_11.out) (Kd.R_base ho0) hb); have n2_ := Aside0.mk (Kd.R_below (by (with_reducible repeat (first | apply Kd.R_alloc | apply Kd.R_drewN | apply Kd.R_drew)); exact HO759.out) hb); have n3_ := Aside0.mk (Kd.R_lower (Kd.R_new' (Kd.R_new' ho0 (Kd.R_lt (by (with_reducible repeat (first | apply Kd.R_alloc | apply Kd.R_drewN | apply Kd.R_drew)); exact HO_7.out))) (Kd.R_lt (by (with_reducible repeat (first | apply Kd.R_alloc | apply Kd.R_drewN | apply Kd.R_drew)); exact HO_11.out))) (below_size (by repeat (first | (with_reducible first | exact HB.out | apply below_alloc | apply pw_below_drewN | apply below_drew1 | refine below_set ?_ GE730.out | refine below_set ?_ GE743.out) | exact HB.out)))); have n4_ := Aside0.mk (blk_below (g := gb730) (o := .cells #[.string t721, .string t722, .string t723, .string t724, .bool t725] 72 (0, 0)) (by (with_reducible repeat (first | refine blk_drewN ?_ _ | refine blk_drew ?_ | refine blk_alloc ?_ _)); exact BK730.out) hb); have n5_ := Aside0.mk (blk_below (g := gb743) (o := .cells #[.string t734, .string t735, .string t736, .string t737, .bool t738] 72 (0, 0)) (by (with_reducible repeat (first | refine blk_drewN ?_ _ | refine blk_drew ?_ | refine blk_alloc ?_ _)); exact BK743.out) hb); have n6_ := Aside0.mk (below_step (by repeat (first | (with_reducible first | exact HB.out | apply below_alloc | apply pw_below_drewN | apply below_drew1 | refine below_set ?_ GE730.out | refine below_set ?_ GE743.out) | exact HB.out)) hb); clear HO_7; clear HO_11; clear HO759; clear BK730; clear BK743; clear HB; have HO_7 := n0_; have HO_11 := n1_; have HO759 := n2_; have HO767 := n3_; have BK730 := n4_; have BK743 := n5_; have HB := n6_; clear n0_ n1_ n2_ n3_ n4_ n5_ n6_; (try clear hb); (try clear hb2); (try clear hk); (try clear hi); (try clear ho0)) | ((with_reducible refine gate_dst (N := 16) rfl ?_); refine box_event ?hg (N := 16) ?hd (cs := #[.string (⟨#[]⟩ : ByteArray), .string (⟨#[]⟩ : ByteArray), .string (⟨#[]⟩ : ByteArray), .string (⟨#[]⟩ : ByteArray), .bool false]) (t := 72) ?hr ?_; (case hd => rfl); (case hg => rfl); (case hr => first | (go_simp; done) | (go_simp; rfl)); intro gb769 hg w91 hbox hb; have n0_ := Aside0.mk (Kd.R_below (by (with_reducible repeat (first | apply Kd.R_alloc | apply Kd.R_drewN | apply Kd.R_drew)); exact HO_7.out) hb); have n1_ := Aside0.mk (Kd.R_below (by (with_reducible repeat (first | apply Kd.R_alloc | apply Kd.R_drewN | apply Kd.R_drew)); exact HO_11.out) hb); have n2_ := Aside0.mk (Kd.R_below (Kd.R_elderB (by (with_reducible repeat (first | apply Kd.R_alloc | apply Kd.R_drewN | apply Kd.R_drew)); exact HO759.out) gb769 (Nat.le_of_eq hg.symm)) hb); have n3_ := Aside0.mk (Kd.R_below (by (with_reducible repeat (first | apply Kd.R_alloc | apply Kd.R_drewN | apply Kd.R_drew)); exact HO767.out) hb); have n4_ := Aside0.mk (blk_below (g := gb730) (o := .cells #[.string t721, .string t722, .string t723, .string t724, .bool t725] 72 (0, 0)) (by (with_reducible repeat (first | refine blk_drewN ?_ _ | refine blk_drew ?_ | refine blk_alloc ?_ _)); exact BK730.out) hb); have n5_ := Aside0.mk (blk_below (g := gb743) (o := .cells #[.string t734, .string t735, .string t736, .string t737, .bool t738] 72 (0, 0)) (by (with_reducible repeat (first | refine blk_drewN ?_ _ | refine blk_drew ?_ | refine blk_alloc ?_ _)); exact BK743.out) hb); have n6_ := Aside0.mk (below_step (by repeat (first | (with_reducible first | exact HB.out | apply below_alloc | apply pw_below_drewN | apply below_drew1 | refine below_set ?_ GE730.out | refine below_set ?_ GE743.out) | exact HB.out)) hb); have n7_ := Aside0.mk (hbox); have n8_ := Aside0.mk ((by rw [hg]; exact (below_size (by repeat (first | (with_reducible first | exact HB.out | apply below_alloc | apply pw_below_drewN | apply below_drew1 | refine below_set ?_ GE730.out | refine below_set ?_ GE743.out) | exact HB.out))) : w.heap.size ≤ gb769)); have n9_ := Aside0.mk ((by rw [hg]; exact (below_size (by repeat (first | (with_reducible first | exact HB.out | apply below_alloc | apply pw_below_drewN | apply below_drew1 | refine below_set ?_ GE730.out | refine below_set ?_ GE743.out) | exact HB.out))) : w.heap.size ≤ gb769)); have n10_ := Aside0.mk ((by rw [hg]; exact Nat.ne_of_lt (blk_lt (g := gb730) (o := .cells #[.string t721, .string t722, .string t723, .string t724, .bool t725] 72 (0, 0)) (by (with_reducible repeat (first | refine blk_drewN ?_ _ | refine blk_drew ?_ | refine blk_alloc ?_ _)); exact BK730.out)) : gb730 ≠ gb769)); have n11_ := Aside0.mk ((by rw [hg]; exact Nat.ne_of_gt (blk_lt (g := gb730) (o := .cells #[.string t721, .string t722, .string t723, .string t724, .bool t725] 72 (0, 0)) (by (with_reducible repeat (first | refine blk_drewN ?_ _ | refine blk_drew ?_ | refine blk_alloc ?_ _)); exact BK730.out)) : gb769 ≠ gb730)); have n12_ := Aside0.mk ((by rw [hg]; exact Nat.ne_of_lt (blk_lt (g := gb743) (o := .cells #[.string t734, .string t735, .string t736, .string t737, .bool t738] 72 (0, 0)) (by (with_reducible repeat (first | refine blk_drewN ?_ _ | refine blk_drew ?_ | refine blk_alloc ?_ _)); exact BK743.out)) : gb743 ≠ gb769)); have n13_ := Aside0.mk ((by rw [hg]; exact Nat.ne_of_gt (blk_lt (g := gb743) (o := .cells #[.string t734, .string t735, .string t736, .string t737, .bool t738] 72 (0, 0)) (by (with_reducible repeat (first | refine blk_drewN ?_ _ | refine blk_drew ?_ | refine blk_alloc ?_ _)); exact BK743.out)) : gb769 ≠ gb743)); clear HO_7; clear HO_11; clear HO759; clear HO767; clear BK730; clear BK743; clear HB; have HO_7 := n0_; have HO_11 := n1_; have HO759 := n2_; have HO767 := n3_; have BK730 := n4_; have BK743 := n5_; have HB := n6_; have BK769 := n7_; have GW769 := n8_; have GE769 := n9_; have NB730_769 := n10_; have NB769_730 := n11_; have NB743_769 := n12_; have NB769_743 := n13_; clear n0_ n1_ n2_ n3_ n4_ n5_ n6_ n7_ n8_ n9_ n10_ n11_ n12_ n13_; clear hb hbox hg; have hnb92 := NB769_730.out; have hnc92 := NB730_769.out; have hnb93 := NB769_743.out; have hnc93 := NB743_769.out; have hcz94_0 : w91.cell? ⟨gb769, 0, none⟩ = some (.string (⟨#[]⟩ : ByteArray)) := (blk_cell BK769.out 0).trans rfl; have hcz94_1 : w91.cell? ⟨gb769, 1, none⟩ = some (.string (⟨#[]⟩ : ByteArray)) := (blk_cell BK769.out 1).trans rfl; have hcz94_2 : w91.cell? ⟨gb769, 2, none⟩ = some (.string (⟨#[]⟩ : ByteArray)) := (blk_cell BK769.out 2).trans rfl; have hcz94_3 : w91.cell? ⟨gb769, 3, none⟩ = some (.string (⟨#[]⟩ : ByteArray)) := (blk_cell BK769.out 3).trans rfl; have hcz94_4 : w91.cell? ⟨gb769, 4, none⟩ = some (.bool false) := (blk_cell BK769.out 4).trans rfl; have hfz94_0 := blk_frozen BK769.out 0; have hfz94_1 := blk_frozen BK769.out 1; have hfz94_2 := blk_frozen BK769.out 2; have hfz94_3 := blk_frozen BK769.out 3; have hfz94_4 := blk_frozen BK769.out 4))
           (try simp only [Act.put, List.setIfInBounds_toArray, List.set_cons_zero, List.set_cons_succ])
           go_cut [116] (fun v116 wc => ∃ (kq : Nat) (x116_83 : Bool), v116 = .bool x116_83 ∧ Aside0 (laws_FnExactShowSlot.j2 kq t755 t754 x116_83 = some r) ∧ Aside0 (kq ≤ kj47) ∧ Aside0 (Kd.R Kd.string 9 wc w.heap.size (fun _ => True) (.slice Ao85 t739.length co85) t755) ∧ Aside0 (wc.heap[gb730]? = some (.cells #[.string t721, .string t722, .string t723, .string t724, .bool t725] 72 (0, 0))) ∧ Aside0 (wc.heap[gb743]? = some (.cells #[.string t734, .string t735, .string t736, .string t737, .bool t738] 72 (0, 0))) ∧ Aside0 (wc.heap[gb769]? = some (.cells #[.string t760, .string t761, .string t762, .string t763, .bool t764] 72 (0, 0))) ∧ Aside0 (Below w.heap.size w wc))
           case first =>
            have H := HC84.out
            clear HC84
            replace H := Option.bind_eq_some_iff.mp H
            obtain ⟨t770, A950, H⟩ := H
            replace H : (if t770 = true then ((laws_eqStringS.f kj47 t765 t726).bind fun t771 => (if t771 = true then (laws_FnExactShowSlot.j2 kj47 t755 t754 (t768 != t729)) else (laws_FnExactShowSlot.j2 kj47 t755 t754 true))) else (laws_FnExactShowSlot.j2 kj47 t755 t754 true)) = some r := H
            have A95 := Aside0.mk A950
            clear A950
            by_cases c96 : t770 = true
            ·subst c96
             have H1 : ((laws_eqStringS.f kj47 t765 t726).bind fun t771 => (if t771 = true then (laws_FnExactShowSlot.j2 kj47 t755 t754 (t768 != t729)) else (laws_FnExactShowSlot.j2 kj47 t755 t754 true))) = some r := by rw [if_pos rfl] at H; exact H
             clear H
             have H := H1
             clear H1
             replace H := Option.bind_eq_some_iff.mp H
             obtain ⟨t771, A970, H⟩ := H
             replace H : (if t771 = true then (laws_FnExactShowSlot.j2 kj47 t755 t754 (t768 != t729)) else (laws_FnExactShowSlot.j2 kj47 t755 t754 true)) = some r := H
             have A97 := Aside0.mk A970
             clear A970
             by_cases c98 : t771 = true
             ·subst c98
              have H1 : (laws_FnExactShowSlot.j2 kj47 t755 t754 (t768 != t729)) = some r := by rw [if_pos rfl] at H; exact H
              clear H
              have H := H1
              clear H1
              have H' := Aside0.mk H
              clear H
              have hnb99 := NB769_730.out
              have hnc99 := NB730_769.out
              have hnb100 := NB769_743.out
              have hnc100 := NB743_769.out
              have hcz101_0 : w91.cell? ⟨gb769, 0, none⟩ = some (.string (⟨#[]⟩ : ByteArray)) := (blk_cell BK769.out 0).trans rfl
              have hcz101_1 : w91.cell? ⟨gb769, 1, none⟩ = some (.string (⟨#[]⟩ : ByteArray)) := (blk_cell BK769.out 1).trans rfl
              have hcz101_2 : w91.cell? ⟨gb769, 2, none⟩ = some (.string (⟨#[]⟩ : ByteArray)) := (blk_cell BK769.out 2).trans rfl
              have hcz101_3 : w91.cell? ⟨gb769, 3, none⟩ = some (.string (⟨#[]⟩ : ByteArray)) := (blk_cell BK769.out 3).trans rfl
              have hcz101_4 : w91.cell? ⟨gb769, 4, none⟩ = some (.bool false) := (blk_cell BK769.out 4).trans rfl
              have hfz101_0 := blk_frozen BK769.out 0
              have hfz101_1 := blk_frozen BK769.out 1
              have hfz101_2 := blk_frozen BK769.out 2
              have hfz101_3 := blk_frozen BK769.out 3
              have hfz101_4 := blk_frozen BK769.out 4
              have hnb102 := NB730_743.out
              have hnc102 := NB743_730.out
              have hcz103_0 : w91.cell? ⟨gb730, 0, none⟩ = some (.string t721) := (blk_cell BK730.out 0).trans rfl
              have hcz103_1 : w91.cell? ⟨gb730, 1, none⟩ = some (.string t722) := (blk_cell BK730.out 1).trans rfl
              have hcz103_2 : w91.cell? ⟨gb730, 2, none⟩ = some (.string t723) := (blk_cell BK730.out 2).trans rfl
              have hcz103_3 : w91.cell? ⟨gb730, 3, none⟩ = some (.string t724) := (blk_cell BK730.out 3).trans rfl
              have hcz103_4 : w91.cell? ⟨gb730, 4, none⟩ = some (.bool t725) := (blk_cell BK730.out 4).trans rfl
              have hfz103_0 := blk_frozen BK730.out 0
              have hfz103_1 := blk_frozen BK730.out 1
              have hfz103_2 := blk_frozen BK730.out 2
              have hfz103_3 := blk_frozen BK730.out 3
              have hfz103_4 := blk_frozen BK730.out 4
              go_wp2_with (first | ((with_reducible refine gate_callee (f := 66) rfl ?_); refine goesL_ (some 104) rfl rfl Try.func66 (by kernel_rfl) rfl #[.agg #[.string t760, .string t761, .string t762, .string t763, .bool t764], .agg #[.string t721, .string t722, .string t723, .string t724, .bool t725]] rfl (by (try simp only [List.map_toArray, List.map_cons, List.map_nil]); first | done | rfl | (simp only [List.length_drop, List.length_take]; rfl)) ?_; (with_reducible refine (laws_eqSlot.calls t760 t761 t762 t763 t764 t721 t722 t723 t724 t725 true _ A95.out).mono ?_); rintro e w104 ⟨rfl, hb⟩; refine ⟨_, rfl, ?_⟩; have n0_ := Aside0.mk (Kd.R_below (by (with_reducible repeat (first | apply Kd.R_alloc | apply Kd.R_drewN | apply Kd.R_drew)); exact (Kd.R_mono (Kd.R_far (p := ⟨gb769, 4, none⟩) (Kd.R_far (p := ⟨gb769, 3, none⟩) (Kd.R_far (p := ⟨gb769, 2, none⟩) (Kd.R_far (p := ⟨gb769, 1, none⟩) (Kd.R_far (p := ⟨gb769, 0, none⟩) (Kd.R_types HO_7.out BK769.out (by decide)) (fun _ hk => hk.2) (.string t760)) (fun _ hk => hk.2) (.string t761)) (fun _ hk => hk.2) (.string t762)) (fun _ hk => hk.2) (.string t763)) (fun _ hk => hk.2) (.bool t764)) (fun _ h_ => h_.1))) hb); have n1_ := Aside0.mk (Kd.R_below (by (with_reducible repeat (first | apply Kd.R_alloc | apply Kd.R_drewN | apply Kd.R_drew)); exact (Kd.R_mono (Kd.R_far (p := ⟨gb769, 4, none⟩) (Kd.R_far (p := ⟨gb769, 3, none⟩) (Kd.R_far (p := ⟨gb769, 2, none⟩) (Kd.R_far (p := ⟨gb769, 1, none⟩) (Kd.R_far (p := ⟨gb769, 0, none⟩) (Kd.R_types HO_11.out BK769.out (by decide)) (fun _ hk => hk.2) (.string t760)) (fun _ hk => hk.2) (.string t761)) (fun _ hk => hk.2) (.string t762)) (fun _ hk => hk.2) (.string t763)) (fun _ hk => hk.2) (.bool t764)) (fun _ h_ => h_.1))) hb); have n2_ := Aside0.mk (Kd.R_below (by (with_reducible repeat (first | apply Kd.R_alloc | apply Kd.R_drewN | apply Kd.R_drew)); exact (Kd.R_mono (Kd.R_far (p := ⟨gb769, 4, none⟩) (Kd.R_far (p := ⟨gb769, 3, none⟩) (Kd.R_far (p := ⟨gb769, 2, none⟩) (Kd.R_far (p := ⟨gb769, 1, none⟩) (Kd.R_far (p := ⟨gb769, 0, none⟩) (Kd.R_mono HO759.out (fun k_ hk => (⟨hk, hk.2⟩ : _ ∧ k_ ≠ gb769))) (fun _ hk => hk.2) (.string t760)) (fun _ hk => hk.2) (.string t761)) (fun _ hk => hk.2) (.string t762)) (fun _ hk => hk.2) (.string t763)) (fun _ hk => hk.2) (.bool t764)) (fun _ h_ => h_.1))) hb); have n3_ := Aside0.mk (Kd.R_below (by (with_reducible repeat (first | apply Kd.R_alloc | apply Kd.R_drewN | apply Kd.R_drew)); exact (Kd.R_mono (Kd.R_far (p := ⟨gb769, 4, none⟩) (Kd.R_far (p := ⟨gb769, 3, none⟩) (Kd.R_far (p := ⟨gb769, 2, none⟩) (Kd.R_far (p := ⟨gb769, 1, none⟩) (Kd.R_far (p := ⟨gb769, 0, none⟩) (Kd.R_types HO767.out BK769.out (by decide)) (fun _ hk => hk.2) (.string t760)) (fun _ hk => hk.2) (.string t761)) (fun _ hk => hk.2) (.string t762)) (fun _ hk => hk.2) (.string t763)) (fun _ hk => hk.2) (.bool t764)) (fun _ h_ => h_.1))) hb); have n4_ := Aside0.mk (blk_below (g := gb730) (o := .cells #[.string t721, .string t722, .string t723, .string t724, .bool t725] 72 (0, 0)) (by (with_reducible repeat (first | refine blk_drewN ?_ _ | refine blk_drew ?_ | refine blk_alloc ?_ _)); refine blk_far ?_ NB730_769.out _; (with_reducible repeat (first | refine blk_drewN ?_ _ | refine blk_drew ?_ | refine blk_alloc ?_ _)); refine blk_far ?_ NB730_769.out _; (with_reducible repeat (first | refine blk_drewN ?_ _ | refine blk_drew ?_ | refine blk_alloc ?_ _)); refine blk_far ?_ NB730_769.out _; (with_reducible repeat (first | refine blk_drewN ?_ _ | refine blk_drew ?_ | refine blk_alloc ?_ _)); refine blk_far ?_ NB730_769.out _; (with_reducible repeat (first | refine blk_drewN ?_ _ | refine blk_drew ?_ | refine blk_alloc ?_ _)); refine blk_far ?_ NB730_769.out _; (with_reducible repeat (first | refine blk_drewN ?_ _ | refine blk_drew ?_ | refine blk_alloc ?_ _)); exact BK730.out) hb); have n5_ := Aside0.mk (blk_below (g := gb743) (o := .cells #[.string t734, .string t735, .string t736, .string t737, .bool t738] 72 (0, 0)) (by (with_reducible repeat (first | refine blk_drewN ?_ _ | refine blk_drew ?_ | refine blk_alloc ?_ _)); refine blk_far ?_ NB743_769.out _; (with_reducible repeat (first | refine blk_drewN ?_ _ | refine blk_drew ?_ | refine blk_alloc ?_ _)); refine blk_far ?_ NB743_769.out _; (with_reducible repeat (first | refine blk_drewN ?_ _ | refine blk_drew ?_ | refine blk_alloc ?_ _)); refine blk_far ?_ NB743_769.out _; (with_reducible repeat (first | refine blk_drewN ?_ _ | refine blk_drew ?_ | refine blk_alloc ?_ _)); refine blk_far ?_ NB743_769.out _; (with_reducible repeat (first | refine blk_drewN ?_ _ | refine blk_drew ?_ | refine blk_alloc ?_ _)); refine blk_far ?_ NB743_769.out _; (with_reducible repeat (first | refine blk_drewN ?_ _ | refine blk_drew ?_ | refine blk_alloc ?_ _)); exact BK743.out) hb); have n6_ := Aside0.mk (blk_below (g := gb769) (o := .cells #[.string t760, .string t761, .string t762, .string t763, .bool t764] 72 (0, 0)) (by (with_reducible repeat (first | refine blk_drewN ?_ _ | refine blk_drew ?_ | refine blk_alloc ?_ _)); refine blk_put (cs := #[.string t760, .string t761, .string t762, .string t763, .bool false]) ?_ 4 _ rfl; (with_reducible repeat (first | refine blk_drewN ?_ _ | refine blk_drew ?_ | refine blk_alloc ?_ _)); refine blk_put (cs := #[.string t760, .string t761, .string t762, .string (⟨#[]⟩ : ByteArray), .bool false]) ?_ 3 _ rfl; (with_reducible repeat (first | refine blk_drewN ?_ _ | refine blk_drew ?_ | refine blk_alloc ?_ _)); refine blk_put (cs := #[.string t760, .string t761, .string (⟨#[]⟩ : ByteArray), .string (⟨#[]⟩ : ByteArray), .bool false]) ?_ 2 _ rfl; (with_reducible repeat (first | refine blk_drewN ?_ _ | refine blk_drew ?_ | refine blk_alloc ?_ _)); refine blk_put (cs := #[.string t760, .string (⟨#[]⟩ : ByteArray), .string (⟨#[]⟩ : ByteArray), .string (⟨#[]⟩ : ByteArray), .bool false]) ?_ 1 _ rfl; (with_reducible repeat (first | refine blk_drewN ?_ _ | refine blk_drew ?_ | refine blk_alloc ?_ _)); refine blk_put (cs := #[.string (⟨#[]⟩ : ByteArray), .string (⟨#[]⟩ : ByteArray), .string (⟨#[]⟩ : ByteArray), .string (⟨#[]⟩ : ByteArray), .bool false]) ?_ 0 _ rfl; (with_reducible repeat (first | refine blk_drewN ?_ _ | refine blk_drew ?_ | refine blk_alloc ?_ _)); exact BK769.out) hb); have n7_ := Aside0.mk (below_step (by repeat (first | (with_reducible first | exact HB.out | apply below_alloc | apply pw_below_drewN | apply below_drew1 | refine below_set ?_ GE730.out | refine below_set ?_ GE743.out | refine below_set ?_ GE769.out) | exact HB.out)) hb); clear HO_7; clear HO_11; clear HO759; clear HO767; clear BK730; clear BK743; clear BK769; clear HB; have HO_7 := n0_; have HO_11 := n1_; have HO759 := n2_; have HO767 := n3_; have BK730 := n4_; have BK743 := n5_; have BK769 := n6_; have HB := n7_; clear n0_ n1_ n2_ n3_ n4_ n5_ n6_ n7_; (try clear hb); (try clear hb2); (try clear hk); (try clear hi); obtain ⟨Ao105, co105, eo105⟩ := Kd.R_slice HO767.out; subst eo105; obtain ⟨Ao106, co106, eo106⟩ := Kd.R_slice HO_7.out; subst eo106) | (go_at_call 67; (with_reducible refine (laws_eqStringS.calls kj47 _ _ t765 _ _ t726 true _ ?side1 ?side2 ?side3 ?side4 A97.out).mono ?_); (case side1 => repeat (first | exact (Kd.R_reads' HO767.out).2.2 | (with_reducible refine Kd.C_alloc ?_ _) | (with_reducible refine Kd.C_drewN ?_ _) | (with_reducible refine Kd.C_drew ?_))); (case side2 => exact (Kd.R_reads' HO767.out).2.1); (case side3 => repeat (first | exact (Kd.R_reads' HO_7.out).2.2 | (with_reducible refine Kd.C_alloc ?_ _) | (with_reducible refine Kd.C_drewN ?_ _) | (with_reducible refine Kd.C_drew ?_))); (case side4 => exact (Kd.R_reads' HO_7.out).2.1); rintro e w' ⟨rfl, ⟨nd, rfl⟩⟩))
              go_meet
              case rel => exact ⟨_, ((t768 != t729)), (by first | rfl | (simp; done) | (simp [*]; done) | (simp [bne]; done)), H', ⟨by have := HJ9.out; have := HJ47.out; first | omega | exact Nat.le_refl _⟩, ⟨by (with_reducible repeat (first | apply Kd.R_alloc | apply Kd.R_drewN | apply Kd.R_drew)); exact Kd.R_mono HO_11.out (fun _ hk => trivial)⟩, ⟨by (with_reducible repeat (first | refine blk_drewN ?_ _ | refine blk_drew ?_ | refine blk_alloc ?_ _)); exact BK730.out⟩, ⟨by (with_reducible repeat (first | refine blk_drewN ?_ _ | refine blk_drew ?_ | refine blk_alloc ?_ _)); exact BK743.out⟩, ⟨by (with_reducible repeat (first | refine blk_drewN ?_ _ | refine blk_drew ?_ | refine blk_alloc ?_ _)); exact BK769.out⟩, ⟨by repeat (first | (with_reducible first | exact HB.out | apply below_alloc | apply pw_below_drewN | apply below_drew1 | refine below_set ?_ GE730.out | refine below_set ?_ GE743.out | refine below_set ?_ GE769.out) | exact HB.out)⟩⟩
             ·replace c98 := Bool.eq_false_iff.mpr c98
              subst c98
              have H1 : (laws_FnExactShowSlot.j2 kj47 t755 t754 true) = some r := by rw [if_neg (show ¬ (false = true) by decide)] at H; exact H
              clear H
              have H := H1
              clear H1
              have H' := Aside0.mk H
              clear H
              have hnb107 := NB769_730.out
              have hnc107 := NB730_769.out
              have hnb108 := NB769_743.out
              have hnc108 := NB743_769.out
              have hcz109_0 : w91.cell? ⟨gb769, 0, none⟩ = some (.string (⟨#[]⟩ : ByteArray)) := (blk_cell BK769.out 0).trans rfl
              have hcz109_1 : w91.cell? ⟨gb769, 1, none⟩ = some (.string (⟨#[]⟩ : ByteArray)) := (blk_cell BK769.out 1).trans rfl
              have hcz109_2 : w91.cell? ⟨gb769, 2, none⟩ = some (.string (⟨#[]⟩ : ByteArray)) := (blk_cell BK769.out 2).trans rfl
              have hcz109_3 : w91.cell? ⟨gb769, 3, none⟩ = some (.string (⟨#[]⟩ : ByteArray)) := (blk_cell BK769.out 3).trans rfl
              have hcz109_4 : w91.cell? ⟨gb769, 4, none⟩ = some (.bool false) := (blk_cell BK769.out 4).trans rfl
              have hfz109_0 := blk_frozen BK769.out 0
              have hfz109_1 := blk_frozen BK769.out 1
              have hfz109_2 := blk_frozen BK769.out 2
              have hfz109_3 := blk_frozen BK769.out 3
              have hfz109_4 := blk_frozen BK769.out 4
              have hnb110 := NB730_743.out
              have hnc110 := NB743_730.out
              have hcz111_0 : w91.cell? ⟨gb730, 0, none⟩ = some (.string t721) := (blk_cell BK730.out 0).trans rfl
              have hcz111_1 : w91.cell? ⟨gb730, 1, none⟩ = some (.string t722) := (blk_cell BK730.out 1).trans rfl
              have hcz111_2 : w91.cell? ⟨gb730, 2, none⟩ = some (.string t723) := (blk_cell BK730.out 2).trans rfl
              have hcz111_3 : w91.cell? ⟨gb730, 3, none⟩ = some (.string t724) := (blk_cell BK730.out 3).trans rfl
              have hcz111_4 : w91.cell? ⟨gb730, 4, none⟩ = some (.bool t725) := (blk_cell BK730.out 4).trans rfl
              have hfz111_0 := blk_frozen BK730.out 0
              have hfz111_1 := blk_frozen BK730.out 1
              have hfz111_2 := blk_frozen BK730.out 2
              have hfz111_3 := blk_frozen BK730.out 3
              have hfz111_4 := blk_frozen BK730.out 4
              go_wp2_with (first | ((with_reducible refine gate_callee (f := 66) rfl ?_); refine goesL_ (some 104) rfl rfl Try.func66 (by kernel_rfl) rfl #[.agg #[.string t760, .string t761, .string t762, .string t763, .bool t764], .agg #[.string t721, .string t722, .string t723, .string t724, .bool t725]] rfl (by (try simp only [List.map_toArray, List.map_cons, List.map_nil]); first | done | rfl | (simp only [List.length_drop, List.length_take]; rfl)) ?_; (with_reducible refine (laws_eqSlot.calls t760 t761 t762 t763 t764 t721 t722 t723 t724 t725 true _ A95.out).mono ?_); rintro e w112 ⟨rfl, hb⟩; refine ⟨_, rfl, ?_⟩; have n0_ := Aside0.mk (Kd.R_below (by (with_reducible repeat (first | apply Kd.R_alloc | apply Kd.R_drewN | apply Kd.R_drew)); exact (Kd.R_mono (Kd.R_far (p := ⟨gb769, 4, none⟩) (Kd.R_far (p := ⟨gb769, 3, none⟩) (Kd.R_far (p := ⟨gb769, 2, none⟩) (Kd.R_far (p := ⟨gb769, 1, none⟩) (Kd.R_far (p := ⟨gb769, 0, none⟩) (Kd.R_types HO_7.out BK769.out (by decide)) (fun _ hk => hk.2) (.string t760)) (fun _ hk => hk.2) (.string t761)) (fun _ hk => hk.2) (.string t762)) (fun _ hk => hk.2) (.string t763)) (fun _ hk => hk.2) (.bool t764)) (fun _ h_ => h_.1))) hb); have n1_ := Aside0.mk (Kd.R_below (by (with_reducible repeat (first | apply Kd.R_alloc | apply Kd.R_drewN | apply Kd.R_drew)); exact (Kd.R_mono (Kd.R_far (p := ⟨gb769, 4, none⟩) (Kd.R_far (p := ⟨gb769, 3, none⟩) (Kd.R_far (p := ⟨gb769, 2, none⟩) (Kd.R_far (p := ⟨gb769, 1, none⟩) (Kd.R_far (p := ⟨gb769, 0, none⟩) (Kd.R_types HO_11.out BK769.out (by decide)) (fun _ hk => hk.2) (.string t760)) (fun _ hk => hk.2) (.string t761)) (fun _ hk => hk.2) (.string t762)) (fun _ hk => hk.2) (.string t763)) (fun _ hk => hk.2) (.bool t764)) (fun _ h_ => h_.1))) hb); have n2_ := Aside0.mk (Kd.R_below (by (with_reducible repeat (first | apply Kd.R_alloc | apply Kd.R_drewN | apply Kd.R_drew)); exact (Kd.R_mono (Kd.R_far (p := ⟨gb769, 4, none⟩) (Kd.R_far (p := ⟨gb769, 3, none⟩) (Kd.R_far (p := ⟨gb769, 2, none⟩) (Kd.R_far (p := ⟨gb769, 1, none⟩) (Kd.R_far (p := ⟨gb769, 0, none⟩) (Kd.R_mono HO759.out (fun k_ hk => (⟨hk, hk.2⟩ : _ ∧ k_ ≠ gb769))) (fun _ hk => hk.2) (.string t760)) (fun _ hk => hk.2) (.string t761)) (fun _ hk => hk.2) (.string t762)) (fun _ hk => hk.2) (.string t763)) (fun _ hk => hk.2) (.bool t764)) (fun _ h_ => h_.1))) hb); have n3_ := Aside0.mk (Kd.R_below (by (with_reducible repeat (first | apply Kd.R_alloc | apply Kd.R_drewN | apply Kd.R_drew)); exact (Kd.R_mono (Kd.R_far (p := ⟨gb769, 4, none⟩) (Kd.R_far (p := ⟨gb769, 3, none⟩) (Kd.R_far (p := ⟨gb769, 2, none⟩) (Kd.R_far (p := ⟨gb769, 1, none⟩) (Kd.R_far (p := ⟨gb769, 0, none⟩) (Kd.R_types HO767.out BK769.out (by decide)) (fun _ hk => hk.2) (.string t760)) (fun _ hk => hk.2) (.string t761)) (fun _ hk => hk.2) (.string t762)) (fun _ hk => hk.2) (.string t763)) (fun _ hk => hk.2) (.bool t764)) (fun _ h_ => h_.1))) hb); have n4_ := Aside0.mk (blk_below (g := gb730) (o := .cells #[.string t721, .string t722, .string t723, .string t724, .bool t725] 72 (0, 0)) (by (with_reducible repeat (first | refine blk_drewN ?_ _ | refine blk_drew ?_ | refine blk_alloc ?_ _)); refine blk_far ?_ NB730_769.out _; (with_reducible repeat (first | refine blk_drewN ?_ _ | refine blk_drew ?_ | refine blk_alloc ?_ _)); refine blk_far ?_ NB730_769.out _; (with_reducible repeat (first | refine blk_drewN ?_ _ | refine blk_drew ?_ | refine blk_alloc ?_ _)); refine blk_far ?_ NB730_769.out _; (with_reducible repeat (first | refine blk_drewN ?_ _ | refine blk_drew ?_ | refine blk_alloc ?_ _)); refine blk_far ?_ NB730_769.out _; (with_reducible repeat (first | refine blk_drewN ?_ _ | refine blk_drew ?_ | refine blk_alloc ?_ _)); refine blk_far ?_ NB730_769.out _; (with_reducible repeat (first | refine blk_drewN ?_ _ | refine blk_drew ?_ | refine blk_alloc ?_ _)); exact BK730.out) hb); have n5_ := Aside0.mk (blk_below (g := gb743) (o := .cells #[.string t734, .string t735, .string t736, .string t737, .bool t738] 72 (0, 0)) (by (with_reducible repeat (first | refine blk_drewN ?_ _ | refine blk_drew ?_ | refine blk_alloc ?_ _)); refine blk_far ?_ NB743_769.out _; (with_reducible repeat (first | refine blk_drewN ?_ _ | refine blk_drew ?_ | refine blk_alloc ?_ _)); refine blk_far ?_ NB743_769.out _; (with_reducible repeat (first | refine blk_drewN ?_ _ | refine blk_drew ?_ | refine blk_alloc ?_ _)); refine blk_far ?_ NB743_769.out _; (with_reducible repeat (first | refine blk_drewN ?_ _ | refine blk_drew ?_ | refine blk_alloc ?_ _)); refine blk_far ?_ NB743_769.out _; (with_reducible repeat (first | refine blk_drewN ?_ _ | refine blk_drew ?_ | refine blk_alloc ?_ _)); refine blk_far ?_ NB743_769.out _; (with_reducible repeat (first | refine blk_drewN ?_ _ | refine blk_drew ?_ | refine blk_alloc ?_ _)); exact BK743.out) hb); have n6_ := Aside0.mk (blk_below (g := gb769) (o := .cells #[.string t760, .string t761, .string t762, .string t763, .bool t764] 72 (0, 0)) (by (with_reducible repeat (first | refine blk_drewN ?_ _ | refine blk_drew ?_ | refine blk_alloc ?_ _)); refine blk_put (cs := #[.string t760, .string t761, .string t762, .string t763, .bool false]) ?_ 4 _ rfl; (with_reducible repeat (first | refine blk_drewN ?_ _ | refine blk_drew ?_ | refine blk_alloc ?_ _)); refine blk_put (cs := #[.string t760, .string t761, .string t762, .string (⟨#[]⟩ : ByteArray), .bool false]) ?_ 3 _ rfl; (with_reducible repeat (first | refine blk_drewN ?_ _ | refine blk_drew ?_ | refine blk_alloc ?_ _)); refine blk_put (cs := #[.string t760, .string t761, .string (⟨#[]⟩ : ByteArray), .string (⟨#[]⟩ : ByteArray), .bool false]) ?_ 2 _ rfl; (with_reducible repeat (first | refine blk_drewN ?_ _ | refine blk_drew ?_ | refine blk_alloc ?_ _)); refine blk_put (cs := #[.string t760, .string (⟨#[]⟩ : ByteArray), .string (⟨#[]⟩ : ByteArray), .string (⟨#[]⟩ : ByteArray), .bool false]) ?_ 1 _ rfl; (with_reducible repeat (first | refine blk_drewN ?_ _ | refine blk_drew ?_ | refine blk_alloc ?_ _)); refine blk_put (cs := #[.string (⟨#[]⟩ : ByteArray), .string (⟨#[]⟩ : ByteArray), .string (⟨#[]⟩ : ByteArray), .string (⟨#[]⟩ : ByteArray), .bool false]) ?_ 0 _ rfl; (with_reducible repeat (first | refine blk_drewN ?_ _ | refine blk_drew ?_ | refine blk_alloc ?_ _)); exact BK769.out) hb); have n7_ := Aside0.mk (below_step (by repeat (first | (with_reducible first | exact HB.out | apply below_alloc | apply pw_below_drewN | apply below_drew1 | refine below_set ?_ GE730.out | refine below_set ?_ GE743.out | refine below_set ?_ GE769.out) | exact HB.out)) hb); clear HO_7; clear HO_11; clear HO759; clear HO767; clear BK730; clear BK743; clear BK769; clear HB; have HO_7 := n0_; have HO_11 := n1_; have HO759 := n2_; have HO767 := n3_; have BK730 := n4_; have BK743 := n5_; have BK769 := n6_; have HB := n7_; clear n0_ n1_ n2_ n3_ n4_ n5_ n6_ n7_; (try clear hb); (try clear hb2); (try clear hk); (try clear hi); obtain ⟨Ao113, co113, eo113⟩ := Kd.R_slice HO767.out; subst eo113; obtain ⟨Ao114, co114, eo114⟩ := Kd.R_slice HO_7.out; subst eo114) | (go_at_call 67; (with_reducible refine (laws_eqStringS.calls kj47 _ _ t765 _ _ t726 false _ ?side1 ?side2 ?side3 ?side4 A97.out).mono ?_); (case side1 => repeat (first | exact (Kd.R_reads' HO767.out).2.2 | (with_reducible refine Kd.C_alloc ?_ _) | (with_reducible refine Kd.C_drewN ?_ _) | (with_reducible refine Kd.C_drew ?_))); (case side2 => exact (Kd.R_reads' HO767.out).2.1); (case side3 => repeat (first | exact (Kd.R_reads' HO_7.out).2.2 | (with_reducible refine Kd.C_alloc ?_ _) | (with_reducible refine Kd.C_drewN ?_ _) | (with_reducible refine Kd.C_drew ?_))); (case side4 => exact (Kd.R_reads' HO_7.out).2.1); rintro e w' ⟨rfl, ⟨nd, rfl⟩⟩))
              go_meet
              case rel => exact ⟨_, (true), (by first | rfl | (simp; done) | (simp [*]; done) | (simp [bne]; done)), H', ⟨by have := HJ9.out; have := HJ47.out; first | omega | exact Nat.le_refl _⟩, ⟨by (with_reducible repeat (first | apply Kd.R_alloc | apply Kd.R_drewN | apply Kd.R_drew)); exact Kd.R_mono HO_11.out (fun _ hk => trivial)⟩, ⟨by (with_reducible repeat (first | refine blk_drewN ?_ _ | refine blk_drew ?_ | refine blk_alloc ?_ _)); exact BK730.out⟩, ⟨by (with_reducible repeat (first | refine blk_drewN ?_ _ | refine blk_drew ?_ | refine blk_alloc ?_ _)); exact BK743.out⟩, ⟨by (with_reducible repeat (first | refine blk_drewN ?_ _ | refine blk_drew ?_ | refine blk_alloc ?_ _)); exact BK769.out⟩, ⟨by repeat (first | (with_reducible first | exact HB.out | apply below_alloc | apply pw_below_drewN | apply below_drew1 | refine below_set ?_ GE730.out | refine below_set ?_ GE743.out | refine below_set ?_ GE769.out) | exact HB.out)⟩⟩
            ·replace c96 := Bool.eq_false_iff.mpr c96
             subst c96
             have H1 : (laws_FnExactShowSlot.j2 kj47 t755 t754 true) = some r := by rw [if_neg (show ¬ (false = true) by decide)] at H; exact H
             clear H
             have H := H1
             clear H1
             have H' := Aside0.mk H
             clear H
             have hnb115 := NB769_730.out
             have hnc115 := NB730_769.out
             have hnb116 := NB769_743.out
             have hnc116 := NB743_769.out
             have hcz117_0 : w91.cell? ⟨gb769, 0, none⟩ = some (.string (⟨#[]⟩ : ByteArray)) := (blk_cell BK769.out 0).trans rfl
             have hcz117_1 : w91.cell? ⟨gb769, 1, none⟩ = some (.string (⟨#[]⟩ : ByteArray)) := (blk_cell BK769.out 1).trans rfl
             have hcz117_2 : w91.cell? ⟨gb769, 2, none⟩ = some (.string (⟨#[]⟩ : ByteArray)) := (blk_cell BK769.out 2).trans rfl
             have hcz117_3 : w91.cell? ⟨gb769, 3, none⟩ = some (.string (⟨#[]⟩ : ByteArray)) := (blk_cell BK769.out 3).trans rfl
             have hcz117_4 : w91.cell? ⟨gb769, 4, none⟩ = some (.bool false) := (blk_cell BK769.out 4).trans rfl
             have hfz117_0 := blk_frozen BK769.out 0
             have hfz117_1 := blk_frozen BK769.out 1
             have hfz117_2 := blk_frozen BK769.out 2
             have hfz117_3 := blk_frozen BK769.out 3
             have hfz117_4 := blk_frozen BK769.out 4
             have hnb118 := NB730_743.out
             have hnc118 := NB743_730.out
             have hcz119_0 : w91.cell? ⟨gb730, 0, none⟩ = some (.string t721) := (blk_cell BK730.out 0).trans rfl
             have hcz119_1 : w91.cell? ⟨gb730, 1, none⟩ = some (.string t722) := (blk_cell BK730.out 1).trans rfl
             have hcz119_2 : w91.cell? ⟨gb730, 2, none⟩ = some (.string t723) := (blk_cell BK730.out 2).trans rfl
             have hcz119_3 : w91.cell? ⟨gb730, 3, none⟩ = some (.string t724) := (blk_cell BK730.out 3).trans rfl
             have hcz119_4 : w91.cell? ⟨gb730, 4, none⟩ = some (.bool t725) := (blk_cell BK730.out 4).trans rfl
             have hfz119_0 := blk_frozen BK730.out 0
             have hfz119_1 := blk_frozen BK730.out 1
             have hfz119_2 := blk_frozen BK730.out 2
             have hfz119_3 := blk_frozen BK730.out 3
             have hfz119_4 := blk_frozen BK730.out 4
             go_wp2_with (first | ((with_reducible refine gate_callee (f := 66) rfl ?_); refine goesL_ (some 104) rfl rfl Try.func66 (by kernel_rfl) rfl #[.agg #[.string t760, .string t761, .string t762, .string t763, .bool t764], .agg #[.string t721, .string t722, .string t723, .string t724, .bool t725]] rfl (by (try simp only [List.map_toArray, List.map_cons, List.map_nil]); first | done | rfl | (simp only [List.length_drop, List.length_take]; rfl)) ?_; (with_reducible refine (laws_eqSlot.calls t760 t761 t762 t763 t764 t721 t722 t723 t724 t725 false _ A95.out).mono ?_); rintro e w120 ⟨rfl, hb⟩; refine ⟨_, rfl, ?_⟩; have n0_ := Aside0.mk (Kd.R_below (by (with_reducible repeat (first | apply Kd.R_alloc | apply Kd.R_drewN | apply Kd.R_drew)); exact (Kd.R_mono (Kd.R_far (p := ⟨gb769, 4, none⟩) (Kd.R_far (p := ⟨gb769, 3, none⟩) (Kd.R_far (p := ⟨gb769, 2, none⟩) (Kd.R_far (p := ⟨gb769, 1, none⟩) (Kd.R_far (p := ⟨gb769, 0, none⟩) (Kd.R_types HO_7.out BK769.out (by decide)) (fun _ hk => hk.2) (.string t760)) (fun _ hk => hk.2) (.string t761)) (fun _ hk => hk.2) (.string t762)) (fun _ hk => hk.2) (.string t763)) (fun _ hk => hk.2) (.bool t764)) (fun _ h_ => h_.1))) hb); have n1_ := Aside0.mk (Kd.R_below (by (with_reducible repeat (first | apply Kd.R_alloc | apply Kd.R_drewN | apply Kd.R_drew)); exact (Kd.R_mono (Kd.R_far (p := ⟨gb769, 4, none⟩) (Kd.R_far (p := ⟨gb769, 3, none⟩) (Kd.R_far (p := ⟨gb769, 2, none⟩) (Kd.R_far (p := ⟨gb769, 1, none⟩) (Kd.R_far (p := ⟨gb769, 0, none⟩) (Kd.R_types HO_11.out BK769.out (by decide)) (fun _ hk => hk.2) (.string t760)) (fun _ hk => hk.2) (.string t761)) (fun _ hk => hk.2) (.string t762)) (fun _ hk => hk.2) (.string t763)) (fun _ hk => hk.2) (.bool t764)) (fun _ h_ => h_.1))) hb); have n2_ := Aside0.mk (Kd.R_below (by (with_reducible repeat (first | apply Kd.R_alloc | apply Kd.R_drewN | apply Kd.R_drew)); exact (Kd.R_mono (Kd.R_far (p := ⟨gb769, 4, none⟩) (Kd.R_far (p := ⟨gb769, 3, none⟩) (Kd.R_far (p := ⟨gb769, 2, none⟩) (Kd.R_far (p := ⟨gb769, 1, none⟩) (Kd.R_far (p := ⟨gb769, 0, none⟩) (Kd.R_mono HO759.out (fun k_ hk => (⟨hk, hk.2⟩ : _ ∧ k_ ≠ gb769))) (fun _ hk => hk.2) (.string t760)) (fun _ hk => hk.2) (.string t761)) (fun _ hk => hk.2) (.string t762)) (fun _ hk => hk.2) (.string t763)) (fun _ hk => hk.2) (.bool t764)) (fun _ h_ => h_.1))) hb); have n3_ := Aside0.mk (Kd.R_below (by (with_reducible repeat (first | apply Kd.R_alloc | apply Kd.R_drewN | apply Kd.R_drew)); exact (Kd.R_mono (Kd.R_far (p := ⟨gb769, 4, none⟩) (Kd.R_far (p := ⟨gb769, 3, none⟩) (Kd.R_far (p := ⟨gb769, 2, none⟩) (Kd.R_far (p := ⟨gb769, 1, none⟩) (Kd.R_far (p := ⟨gb769, 0, none⟩) (Kd.R_types HO767.out BK769.out (by decide)) (fun _ hk => hk.2) (.string t760)) (fun _ hk => hk.2) (.string t761)) (fun _ hk => hk.2) (.string t762)) (fun _ hk => hk.2) (.string t763)) (fun _ hk => hk.2) (.bool t764)) (fun _ h_ => h_.1))) hb); have n4_ := Aside0.mk (blk_below (g := gb730) (o := .cells #[.string t721, .string t722, .string t723, .string t724, .bool t725] 72 (0, 0)) (by (with_reducible repeat (first | refine blk_drewN ?_ _ | refine blk_drew ?_ | refine blk_alloc ?_ _)); refine blk_far ?_ NB730_769.out _; (with_reducible repeat (first | refine blk_drewN ?_ _ | refine blk_drew ?_ | refine blk_alloc ?_ _)); refine blk_far ?_ NB730_769.out _; (with_reducible repeat (first | refine blk_drewN ?_ _ | refine blk_drew ?_ | refine blk_alloc ?_ _)); refine blk_far ?_ NB730_769.out _; (with_reducible repeat (first | refine blk_drewN ?_ _ | refine blk_drew ?_ | refine blk_alloc ?_ _)); refine blk_far ?_ NB730_769.out _; (with_reducible repeat (first | refine blk_drewN ?_ _ | refine blk_drew ?_ | refine blk_alloc ?_ _)); refine blk_far ?_ NB730_769.out _; (with_reducible repeat (first | refine blk_drewN ?_ _ | refine blk_drew ?_ | refine blk_alloc ?_ _)); exact BK730.out) hb); have n5_ := Aside0.mk (blk_below (g := gb743) (o := .cells #[.string t734, .string t735, .string t736, .string t737, .bool t738] 72 (0, 0)) (by (with_reducible repeat (first | refine blk_drewN ?_ _ | refine blk_drew ?_ | refine blk_alloc ?_ _)); refine blk_far ?_ NB743_769.out _; (with_reducible repeat (first | refine blk_drewN ?_ _ | refine blk_drew ?_ | refine blk_alloc ?_ _)); refine blk_far ?_ NB743_769.out _; (with_reducible repeat (first | refine blk_drewN ?_ _ | refine blk_drew ?_ | refine blk_alloc ?_ _)); refine blk_far ?_ NB743_769.out _; (with_reducible repeat (first | refine blk_drewN ?_ _ | refine blk_drew ?_ | refine blk_alloc ?_ _)); refine blk_far ?_ NB743_769.out _; (with_reducible repeat (first | refine blk_drewN ?_ _ | refine blk_drew ?_ | refine blk_alloc ?_ _)); refine blk_far ?_ NB743_769.out _; (with_reducible repeat (first | refine blk_drewN ?_ _ | refine blk_drew ?_ | refine blk_alloc ?_ _)); exact BK743.out) hb); have n6_ := Aside0.mk (blk_below (g := gb769) (o := .cells #[.string t760, .string t761, .string t762, .string t763, .bool t764] 72 (0, 0)) (by (with_reducible repeat (first | refine blk_drewN ?_ _ | refine blk_drew ?_ | refine blk_alloc ?_ _)); refine blk_put (cs := #[.string t760, .string t761, .string t762, .string t763, .bool false]) ?_ 4 _ rfl; (with_reducible repeat (first | refine blk_drewN ?_ _ | refine blk_drew ?_ | refine blk_alloc ?_ _)); refine blk_put (cs := #[.string t760, .string t761, .string t762, .string (⟨#[]⟩ : ByteArray), .bool false]) ?_ 3 _ rfl; (with_reducible repeat (first | refine blk_drewN ?_ _ | refine blk_drew ?_ | refine blk_alloc ?_ _)); refine blk_put (cs := #[.string t760, .string t761, .string (⟨#[]⟩ : ByteArray), .string (⟨#[]⟩ : ByteArray), .bool false]) ?_ 2 _ rfl; (with_reducible repeat (first | refine blk_drewN ?_ _ | refine blk_drew ?_ | refine blk_alloc ?_ _)); refine blk_put (cs := #[.string t760, .string (⟨#[]⟩ : ByteArray), .string (⟨#[]⟩ : ByteArray), .string (⟨#[]⟩ : ByteArray), .bool false]) ?_ 1 _ rfl; (with_reducible repeat (first | refine blk_drewN ?_ _ | refine blk_drew ?_ | refine blk_alloc ?_ _)); refine blk_put (cs := #[.string (⟨#[]⟩ : ByteArray), .string (⟨#[]⟩ : ByteArray), .string (⟨#[]⟩ : ByteArray), .string (⟨#[]⟩ : ByteArray), .bool false]) ?_ 0 _ rfl; (with_reducible repeat (first | refine blk_drewN ?_ _ | refine blk_drew ?_ | refine blk_alloc ?_ _)); exact BK769.out) hb); have n7_ := Aside0.mk (below_step (by repeat (first | (with_reducible first | exact HB.out | apply below_alloc | apply pw_below_drewN | apply below_drew1 | refine below_set ?_ GE730.out | refine below_set ?_ GE743.out | refine below_set ?_ GE769.out) | exact HB.out)) hb); clear HO_7; clear HO_11; clear HO759; clear HO767; clear BK730; clear BK743; clear BK769; clear HB; have HO_7 := n0_; have HO_11 := n1_; have HO759 := n2_; have HO767 := n3_; have BK730 := n4_; have BK743 := n5_; have BK769 := n6_; have HB := n7_; clear n0_ n1_ n2_ n3_ n4_ n5_ n6_ n7_; (try clear hb); (try clear hb2); (try clear hk); (try clear hi)))
             go_meet
             case rel => exact ⟨_, (true), (by first | rfl | (simp; done) | (simp [*]; done) | (simp [bne]; done)), H', ⟨by have := HJ9.out; have := HJ47.out; first | omega | exact Nat.le_refl _⟩, ⟨by (with_reducible repeat (first | apply Kd.R_alloc | apply Kd.R_drewN | apply Kd.R_drew)); exact Kd.R_mono HO_11.out (fun _ hk => trivial)⟩, ⟨by (with_reducible repeat (first | refine blk_drewN ?_ _ | refine blk_drew ?_ | refine blk_alloc ?_ _)); exact BK730.out⟩, ⟨by (with_reducible repeat (first | refine blk_drewN ?_ _ | refine blk_drew ?_ | refine blk_alloc ?_ _)); exact BK743.out⟩, ⟨by (with_reducible repeat (first | refine blk_drewN ?_ _ | refine blk_drew ?_ | refine blk_alloc ?_ _)); exact BK769.out⟩, ⟨by repeat (first | (with_reducible first | exact HB.out | apply below_alloc | apply pw_below_drewN | apply below_drew1 | refine below_set ?_ GE730.out | refine below_set ?_ GE743.out | refine below_set ?_ GE769.out) | exact HB.out)⟩⟩
           case rest =>
            clear HC84
            try clear c1
            try clear c2
            try clear p2
            try clear c3
            try clear c4
            try clear c4b0
            try clear c5
            try clear c6
            try clear c7
            try clear c8
            try clear c9
            try clear c10
            try clear c11
            try clear c12
            try clear c15
            try clear c17
            try clear c19
            try clear c21
            try clear c24
            try clear c26
            try clear c27
            try clear c33
            try clear c39
            try clear c43
            try clear c46
            try clear c50
            try clear c53
            try clear c53b0
            try clear c55
            try clear c57
            try clear c58
            try clear c63
            try clear c64
            try clear c65
            try clear c66
            try clear c68
            try clear c69
            try clear c70
            try clear c74
            try clear c77
            try clear c77b0
            try clear c81
            try clear c81b0
            try clear c81b1
            try clear c92
            try clear c93
            try clear c96
            try clear c98
            try clear c99
            try clear c100
            try clear c102
            try clear c107
            try clear c108
            try clear c110
            try clear c115
            try clear c116
            try clear c118
            try clear hcz101_0
            try clear hcz101_1
            try clear hcz101_2
            try clear hcz101_3
            try clear hcz101_4
            try clear hcz103_0
            try clear hcz103_1
            try clear hcz103_2
            try clear hcz103_3
            try clear hcz103_4
            try clear hcz109_0
            try clear hcz109_1
            try clear hcz109_2
            try clear hcz109_3
            try clear hcz109_4
            try clear hcz111_0
            try clear hcz111_1
            try clear hcz111_2
            try clear hcz111_3
            try clear hcz111_4
            try clear hcz117_0
            try clear hcz117_1
            try clear hcz117_2
            try clear hcz117_3
            try clear hcz117_4
            try clear hcz119_0
            try clear hcz119_1
            try clear hcz119_2
            try clear hcz119_3
            try clear hcz119_4
            try clear hcz16_0
            try clear hcz16_1
            try clear hcz16_2
            try clear hcz16_3
            try clear hcz16_4
            try clear hcz22_0
            try clear hcz22_1
            try clear hcz22_2
            try clear hcz22_3
            try clear hcz22_4
            try clear hcz28_0
            try clear hcz28_1
            try clear hcz28_2
            try clear hcz28_3
            try clear hcz28_4
            try clear hcz29_0
            try clear hcz29_1
            try clear hcz29_2
            try clear hcz29_3
            try clear hcz29_4
            try clear hcz34_0
            try clear hcz34_1
            try clear hcz34_2
            try clear hcz34_3
            try clear hcz34_4
            try clear hcz35_0
            try clear hcz35_1
            try clear hcz35_2
            try clear hcz35_3
            try clear hcz35_4
            try clear hcz40_0
            try clear hcz40_1
            try clear hcz40_2
            try clear hcz40_3
            try clear hcz40_4
            try clear hcz41_0
            try clear hcz41_1
            try clear hcz41_2
            try clear hcz41_3
            try clear hcz41_4
            try clear hcz59_0
            try clear hcz59_1
            try clear hcz59_2
            try clear hcz59_3
            try clear hcz59_4
            try clear hcz60_0
            try clear hcz60_1
            try clear hcz60_2
            try clear hcz60_3
            try clear hcz60_4
            try clear hcz65_0
            try clear hcz65_1
            try clear hcz65_2
            try clear hcz65_3
            try clear hcz65_4
            try clear hcz66_0
            try clear hcz66_1
            try clear hcz66_2
            try clear hcz66_3
            try clear hcz66_4
            try clear hcz71_0
            try clear hcz71_1
            try clear hcz71_2
            try clear hcz71_3
            try clear hcz71_4
            try clear hcz72_0
            try clear hcz72_1
            try clear hcz72_2
            try clear hcz72_3
            try clear hcz72_4
            try clear hcz94_0
            try clear hcz94_1
            try clear hcz94_2
            try clear hcz94_3
            try clear hcz94_4
            try clear hfz101_0
            try clear hfz101_1
            try clear hfz101_2
            try clear hfz101_3
            try clear hfz101_4
            try clear hfz103_0
            try clear hfz103_1
            try clear hfz103_2
            try clear hfz103_3
            try clear hfz103_4
            try clear hfz109_0
            try clear hfz109_1
            try clear hfz109_2
            try clear hfz109_3
            try clear hfz109_4
            try clear hfz111_0
            try clear hfz111_1
            try clear hfz111_2
            try clear hfz111_3
            try clear hfz111_4
            try clear hfz117_0
            try clear hfz117_1
            try clear hfz117_2
            try clear hfz117_3
            try clear hfz117_4
            try clear hfz119_0
            try clear hfz119_1
            try clear hfz119_2
            try clear hfz119_3
            try clear hfz119_4
            try clear hfz16_0
            try clear hfz16_1
            try clear hfz16_2
            try clear hfz16_3
            try clear hfz16_4
            try clear hfz22_0
            try clear hfz22_1
            try clear hfz22_2
            try clear hfz22_3
            try clear hfz22_4
            try clear hfz28_0
            try clear hfz28_1
            try clear hfz28_2
            try clear hfz28_3
            try clear hfz28_4
            try clear hfz29_0
            try clear hfz29_1
            try clear hfz29_2
            try clear hfz29_3
            try clear hfz29_4
            try clear hfz34_0
            try clear hfz34_1
            try clear hfz34_2
            try clear hfz34_3
            try clear hfz34_4
            try clear hfz35_0
            try clear hfz35_1
            try clear hfz35_2
            try clear hfz35_3
            try clear hfz35_4
            try clear hfz40_0
            try clear hfz40_1
            try clear hfz40_2
            try clear hfz40_3
            try clear hfz40_4
            try clear hfz41_0
            try clear hfz41_1
            try clear hfz41_2
            try clear hfz41_3
            try clear hfz41_4
            try clear hfz59_0
            try clear hfz59_1
            try clear hfz59_2
            try clear hfz59_3
            try clear hfz59_4
            try clear hfz60_0
            try clear hfz60_1
            try clear hfz60_2
            try clear hfz60_3
            try clear hfz60_4
            try clear hfz65_0
            try clear hfz65_1
            try clear hfz65_2
            try clear hfz65_3
            try clear hfz65_4
            try clear hfz66_0
            try clear hfz66_1
            try clear hfz66_2
            try clear hfz66_3
            try clear hfz66_4
            try clear hfz71_0
            try clear hfz71_1
            try clear hfz71_2
            try clear hfz71_3
            try clear hfz71_4
            try clear hfz72_0
            try clear hfz72_1
            try clear hfz72_2
            try clear hfz72_3
            try clear hfz72_4
            try clear hfz94_0
            try clear hfz94_1
            try clear hfz94_2
            try clear hfz94_3
            try clear hfz94_4
            try clear p2
            obtain ⟨kq, x116_83, rfl, HA, HJ83, HO_11, BK730, BK743, BK769, HB⟩ := hcut
            have hl11_83 := (Kd.R_reads' HO_11.out).1
            rw [hl11_83] at HO_11
            (try simp only [hl11_83])
            (try simp only [hl11_83] at BK730)
            (try simp only [hl11_83] at BK743)
            (try simp only [hl11_83] at BK769)
            cases kq with
            | zero => exact absurd HA.out (by simp [laws_FnExactShowSlot.j2])
            | succ kj83 =>
             have H := HA.out
             clear HA
             simp only [laws_FnExactShowSlot.j2] at H
             by_cases c121 : x116_83 = true
             ·subst c121
              have H1 : (some false) = some r := by rw [if_pos rfl] at H; exact H
              clear H
              have H := H1
              clear H1
              obtain rfl := Option.some.inj H
              go_wp2
              go_ret
              exact ⟨by first | rfl | (simp [errW_none, errW_some] <;> rfl) | (simp [*, errW_none, errW_some] <;> rfl), by repeat (first | (with_reducible first | exact HB.out | apply below_alloc | apply pw_below_drewN | apply below_drew1 | refine below_set ?_ GE730.out | refine below_set ?_ GE743.out | refine below_set ?_ GE769.out) | exact HB.out)⟩
             ·replace c121 := Bool.eq_false_iff.mpr c121
              subst c121
              have H1 : ((laws_heldStringS.f kj83 t755 1).bind fun t772 => (if t772 < 0 then (some false) else (if t772 = t754 then (some true) else (some false)))) = some r := by rw [if_neg (show ¬ (false = true) by decide)] at H; exact H
              clear H
              have H := H1
              clear H1
              replace H := Option.bind_eq_some_iff.mp H
              obtain ⟨t772, A1220, H⟩ := H
              replace H : (if t772 < 0 then (some false) else (if t772 = t754 then (some true) else (some false))) = some r := H
              have A122 := Aside0.mk A1220
              clear A1220
              by_cases c123 : t772 < 0
              ·rw [if_pos c123] at H
               have c123b0 : decide (t772 < 0) = true := decide_eq_true c123
               clear c123
               obtain rfl := Option.some.inj H
               go_wp2_with (first | ((with_reducible refine gate_callee (f := 69) rfl ?_); refine goesL_ (some 119) rfl rfl Try.func69 (by kernel_rfl) rfl #[.slice Ao85 t755.length co85, .int .i64 1] rfl (by (try simp only [List.map_toArray, List.map_cons, List.map_nil]); first | done | rfl | (simp only [List.length_drop, List.length_take]; rfl)) ?_; (with_reducible refine (laws_heldStringS.calls kj83 _ _ t755 1 t772 _ ?side1 ?side2 A122.out).mono ?_); (case side1 => repeat (first | exact (Kd.R_reads' HO_11.out).2.2 | (with_reducible refine Kd.C_alloc ?_ _) | (with_reducible refine Kd.C_drewN ?_ _) | (with_reducible refine Kd.C_drew ?_))); (case side2 => exact (Kd.R_reads' HO_11.out).2.1); rintro e w124 ⟨rfl, hb⟩; refine ⟨_, rfl, ?_⟩; have n0_ := Aside0.mk (Kd.R_below (by (with_reducible repeat (first | apply Kd.R_alloc | apply Kd.R_drewN | apply Kd.R_drew)); exact HO_11.out) hb); have n1_ := Aside0.mk (blk_below (g := gb730) (o := .cells #[.string t721, .string t722, .string t723, .string t724, .bool t725] 72 (0, 0)) (by (with_reducible repeat (first | refine blk_drewN ?_ _ | refine blk_drew ?_ | refine blk_alloc ?_ _)); exact BK730.out) hb); have n2_ := Aside0.mk (blk_below (g := gb743) (o := .cells #[.string t734, .string t735, .string t736, .string t737, .bool t738] 72 (0, 0)) (by (with_reducible repeat (first | refine blk_drewN ?_ _ | refine blk_drew ?_ | refine blk_alloc ?_ _)); exact BK743.out) hb); have n3_ := Aside0.mk (blk_below (g := gb769) (o := .cells #[.string t760, .string t761, .string t762, .string t763, .bool t764] 72 (0, 0)) (by (with_reducible repeat (first | refine blk_drewN ?_ _ | refine blk_drew ?_ | refine blk_alloc ?_ _)); exact BK769.out) hb); have n4_ := Aside0.mk (below_step (by repeat (first | (with_reducible first | exact HB.out | apply below_alloc | apply pw_below_drewN | apply below_drew1 | refine below_set ?_ GE730.out | refine below_set ?_ GE743.out | refine below_set ?_ GE769.out) | exact HB.out)) hb); clear HO_11; clear BK730; clear BK743; clear BK769; clear HB; have HO_11 := n0_; have BK730 := n1_; have BK743 := n2_; have BK769 := n3_; have HB := n4_; clear n0_ n1_ n2_ n3_ n4_; (try clear hb); (try clear hb2); (try clear hk); (try clear hi)))
               go_ret
               exact ⟨by first | rfl | (simp [errW_none, errW_some] <;> rfl) | (simp [*, errW_none, errW_some] <;> rfl), by repeat (first | (with_reducible first | exact HB.out | apply below_alloc | apply pw_below_drewN | apply below_drew1 | refine below_set ?_ GE730.out | refine below_set ?_ GE743.out | refine below_set ?_ GE769.out) | exact HB.out)⟩
              ·rw [if_neg c123] at H
               have c123b0 : decide (t772 < 0) = false := decide_eq_false c123
               clear c123
               by_cases c125 : t772 = t754
               ·rw [if_pos c125] at H
                have c125b0 : (t772 == t754) = true := beq_iff_eq.mpr c125
                have c125b1 : (t772 != t754) = false := bne_eq_false_iff_eq.mpr c125
                clear c125
                obtain rfl := Option.some.inj H
                go_wp2_with (first | ((with_reducible refine gate_callee (f := 69) rfl ?_); refine goesL_ (some 119) rfl rfl Try.func69 (by kernel_rfl) rfl #[.slice Ao85 t755.length co85, .int .i64 1] rfl (by (try simp only [List.map_toArray, List.map_cons, List.map_nil]); first | done | rfl | (simp only [List.length_drop, List.length_take]; rfl)) ?_; (with_reducible refine (laws_heldStringS.calls kj83 _ _ t755 1 t772 _ ?side1 ?side2 A122.out).mono ?_); (case side1 => repeat (first | exact (Kd.R_reads' HO_11.out).2.2 | (with_reducible refine Kd.C_alloc ?_ _) | (with_reducible refine Kd.C_drewN ?_ _) | (with_reducible refine Kd.C_drew ?_))); (case side2 => exact (Kd.R_reads' HO_11.out).2.1); rintro e w126 ⟨rfl, hb⟩; refine ⟨_, rfl, ?_⟩; have n0_ := Aside0.mk (Kd.R_below (by (with_reducible repeat (first | apply Kd.R_alloc | apply Kd.R_drewN | apply Kd.R_drew)); exact HO_11.out) hb); have n1_ := Aside0.mk (blk_below (g := gb730) (o := .cells #[.string t721, .string t722, .string t723, .string t724, .bool t725] 72 (0, 0)) (by (with_reducible repeat (first | refine blk_drewN ?_ _ | refine blk_drew ?_ | refine blk_alloc ?_ _)); exact BK730.out) hb); have n2_ := Aside0.mk (blk_below (g := gb743) (o := .cells #[.string t734, .string t735, .string t736, .string t737, .bool t738] 72 (0, 0)) (by (with_reducible repeat (first | refine blk_drewN ?_ _ | refine blk_drew ?_ | refine blk_alloc ?_ _)); exact BK743.out) hb); have n3_ := Aside0.mk (blk_below (g := gb769) (o := .cells #[.string t760, .string t761, .string t762, .string t763, .bool t764] 72 (0, 0)) (by (with_reducible repeat (first | refine blk_drewN ?_ _ | refine blk_drew ?_ | refine blk_alloc ?_ _)); exact BK769.out) hb); have n4_ := Aside0.mk (below_step (by repeat (first | (with_reducible first | exact HB.out | apply below_alloc | apply pw_below_drewN | apply below_drew1 | refine below_set ?_ GE730.out | refine below_set ?_ GE743.out | refine below_set ?_ GE769.out) | exact HB.out)) hb); clear HO_11; clear BK730; clear BK743; clear BK769; clear HB; have HO_11 := n0_; have BK730 := n1_; have BK743 := n2_; have BK769 := n3_; have HB := n4_; clear n0_ n1_ n2_ n3_ n4_; (try clear hb); (try clear hb2); (try clear hk); (try clear hi)))
                go_ret
                exact ⟨by first | rfl | (simp [errW_none, errW_some] <;> rfl) | (simp [*, errW_none, errW_some] <;> rfl), by repeat (first | (with_reducible first | exact HB.out | apply below_alloc | apply pw_below_drewN | apply below_drew1 | refine below_set ?_ GE730.out | refine below_set ?_ GE743.out | refine below_set ?_ GE769.out) | exact HB.out)⟩
               ·rw [if_neg c125] at H
                have c125b0 : (t772 == t754) = false := beq_eq_false_iff_ne.mpr c125
                have c125b1 : (t772 != t754) = true := bne_iff_ne.mpr c125
                obtain rfl := Option.some.inj H
                go_wp2_with (first | ((with_reducible refine gate_callee (f := 69) rfl ?_); refine goesL_ (some 119) rfl rfl Try.func69 (by kernel_rfl) rfl #[.slice Ao85 t755.length co85, .int .i64 1] rfl (by (try simp only [List.map_toArray, List.map_cons, List.map_nil]); first | done | rfl | (simp only [List.length_drop, List.length_take]; rfl)) ?_; (with_reducible refine (laws_heldStringS.calls kj83 _ _ t755 1 t772 _ ?side1 ?side2 A122.out).mono ?_); (case side1 => repeat (first | exact (Kd.R_reads' HO_11.out).2.2 | (with_reducible refine Kd.C_alloc ?_ _) | (with_reducible refine Kd.C_drewN ?_ _) | (with_reducible refine Kd.C_drew ?_))); (case side2 => exact (Kd.R_reads' HO_11.out).2.1); rintro e w127 ⟨rfl, hb⟩; refine ⟨_, rfl, ?_⟩; have n0_ := Aside0.mk (Kd.R_below (by (with_reducible repeat (first | apply Kd.R_alloc | apply Kd.R_drewN | apply Kd.R_drew)); exact HO_11.out) hb); have n1_ := Aside0.mk (blk_below (g := gb730) (o := .cells #[.string t721, .string t722, .string t723, .string t724, .bool t725] 72 (0, 0)) (by (with_reducible repeat (first | refine blk_drewN ?_ _ | refine blk_drew ?_ | refine blk_alloc ?_ _)); exact BK730.out) hb); have n2_ := Aside0.mk (blk_below (g := gb743) (o := .cells #[.string t734, .string t735, .string t736, .string t737, .bool t738] 72 (0, 0)) (by (with_reducible repeat (first | refine blk_drewN ?_ _ | refine blk_drew ?_ | refine blk_alloc ?_ _)); exact BK743.out) hb); have n3_ := Aside0.mk (blk_below (g := gb769) (o := .cells #[.string t760, .string t761, .string t762, .string t763, .bool t764] 72 (0, 0)) (by (with_reducible repeat (first | refine blk_drewN ?_ _ | refine blk_drew ?_ | refine blk_alloc ?_ _)); exact BK769.out) hb); have n4_ := Aside0.mk (below_step (by repeat (first | (with_reducible first | exact HB.out | apply below_alloc | apply pw_below_drewN | apply below_drew1 | refine below_set ?_ GE730.out | refine below_set ?_ GE743.out | refine below_set ?_ GE769.out) | exact HB.out)) hb); clear HO_11; clear BK730; clear BK743; clear BK769; clear HB; have HO_11 := n0_; have BK730 := n1_; have BK743 := n2_; have BK769 := n3_; have HB := n4_; clear n0_ n1_ n2_ n3_ n4_; (try clear hb); (try clear hb2); (try clear hk); (try clear hi)))
                go_ret
                exact ⟨by first | rfl | (simp [errW_none, errW_some] <;> rfl) | (simp [*, errW_none, errW_some] <;> rfl), by repeat (first | (with_reducible first | exact HB.out | apply below_alloc | apply pw_below_drewN | apply below_drew1 | refine below_set ?_ GE730.out | refine below_set ?_ GE743.out | refine below_set ?_ GE769.out) | exact HB.out)⟩
          ·rw [if_neg c81] at H
           have c81b0 : (t756 == t754) = false := beq_eq_false_iff_ne.mpr c81
           have c81b1 : (t756 != t754) = true := bne_iff_ne.mpr c81
           obtain rfl := Option.some.inj H
           obtain ⟨Ao128, co128, eo128⟩ := Kd.R_slice HO_11.out
           subst eo128
           go_wp2_with (first | ((with_reducible refine gate_callee (f := 68) rfl ?_); refine goesL_ (some 85) rfl rfl Try.func68 (by kernel_rfl) rfl #[.slice Ao128 t739.length co128, .int .i64 1] rfl (by (try simp only [List.map_toArray, List.map_cons, List.map_nil]); first | done | rfl | (simp only [List.length_drop, List.length_take]; rfl)) ?_; (with_reducible refine (laws_markStringS.calls kj47 (fun k_ => some k_ = (.slice Ao128 t739.length co128 : Value).ownBlock) (.slice Ao128 t739.length co128) t739 1 t754 t755 w _ ?side1 ?side2 A75.out).mono ?_); (case side1 => repeat (first | (with_reducible first | exact HB.out | apply below_alloc | apply pw_below_drewN | apply below_drew1 | refine below_set ?_ GE730.out | refine below_set ?_ GE743.out) | exact HB.out)); (case side2 => exact Kd.R_tight rfl HO_11.out); rintro e w129 ⟨rfl, hy0, hb, hkp⟩; refine ⟨_, rfl, ?_⟩; have n0_ := Aside0.mk (Kd.R_mono (ok' := fun k_ => some k_ ≠ (.slice Ao128 t739.length co128 : Value).ownBlock) (Kd.R_keptB (HO_7.out) hkp (fun k_ hk_ hs_ => (hk_) hs_)) (fun k_ hk_ => hk_.1)); have n1_ := Aside0.mk (Kd.R_reok rfl hy0 (fun k_ e_ => HO_11.out.1 k_ e_)); have n2_ := Aside0.mk (blk_kept (by (with_reducible repeat (first | refine blk_drewN ?_ _ | refine blk_drew ?_ | refine blk_alloc ?_ _)); exact BK730.out) hkp (fun hs_ => (fun e_ => (Kd.R_ne HO_11.out BK730.out (by decide)) e_) hs_)); have n3_ := Aside0.mk (blk_kept (by (with_reducible repeat (first | refine blk_drewN ?_ _ | refine blk_drew ?_ | refine blk_alloc ?_ _)); exact BK743.out) hkp (fun hs_ => (fun e_ => (Kd.R_ne HO_11.out BK743.out (by decide)) e_) hs_)); have n4_ := Aside0.mk (hb); clear HO_7; clear HO_11; clear BK730; clear BK743; clear HB; have HO_7 := n0_; have HO_11 := n1_; have BK730 := n2_; have BK743 := n3_; have HB := n4_; clear n0_ n1_ n2_ n3_ n4_; (try clear hb); (try clear hkp); (try clear hy0)) | ((with_reducible refine gate_callee (f := 69) rfl ?_); refine goesL_ (some 88) rfl rfl Try.func69 (by kernel_rfl) rfl #[.slice Ao128 t755.length co128, .int .i64 1] rfl (by (try simp only [List.map_toArray, List.map_cons, List.map_nil]); first | done | (rw [show t755.length = t739.length from (Kd.R_reads' HO_11.out).1.symm] <;> rfl) | rfl | (simp only [List.length_drop, List.length_take]; rfl)) ?_; (with_reducible refine (laws_heldStringS.calls kj47 _ _ t755 1 t756 _ ?side1 ?side2 A76.out).mono ?_); (case side1 => repeat (first | exact (Kd.R_reads' HO_11.out).2.2 | (with_reducible refine Kd.C_alloc ?_ _) | (with_reducible refine Kd.C_drewN ?_ _) | (with_reducible refine Kd.C_drew ?_))); (case side2 => rw [show t755.length = t739.length from (Kd.R_reads' HO_11.out).1.symm]; exact (Kd.R_reads' HO_11.out).2.1); rintro e w130 ⟨rfl, hb⟩; refine ⟨_, rfl, ?_⟩; have n0_ := Aside0.mk (Kd.R_below (by (with_reducible repeat (first | apply Kd.R_alloc | apply Kd.R_drewN | apply Kd.R_drew)); exact HO_7.out) hb); have n1_ := Aside0.mk (Kd.R_below (by (with_reducible repeat (first | apply Kd.R_alloc | apply Kd.R_drewN | apply Kd.R_drew)); exact HO_11.out) hb); have n2_ := Aside0.mk (blk_below (g := gb730) (o := .cells #[.string t721, .string t722, .string t723, .string t724, .bool t725] 72 (0, 0)) (by (with_reducible repeat (first | refine blk_drewN ?_ _ | refine blk_drew ?_ | refine blk_alloc ?_ _)); exact BK730.out) hb); have n3_ := Aside0.mk (blk_below (g := gb743) (o := .cells #[.string t734, .string t735, .string t736, .string t737, .bool t738] 72 (0, 0)) (by (with_reducible repeat (first | refine blk_drewN ?_ _ | refine blk_drew ?_ | refine blk_alloc ?_ _)); exact BK743.out) hb); have n4_ := Aside0.mk (below_step (by repeat (first | (with_reducible first | exact HB.out | apply below_alloc | apply pw_below_drewN | apply below_drew1 | refine below_set ?_ GE730.out | refine below_set ?_ GE743.out) | exact HB.out)) hb); clear HO_7; clear HO_11; clear BK730; clear BK743; clear HB; have HO_7 := n0_; have HO_11 := n1_; have BK730 := n2_; have BK743 := n3_; have HB := n4_; clear n0_ n1_ n2_ n3_ n4_; (try clear hb); (try clear hb2); (try clear hk); (try clear hi)))
           go_ret
           exact ⟨by first | rfl | (simp [errW_none, errW_some] <;> rfl) | (simp [*, errW_none, errW_some] <;> rfl), by repeat (first | (with_reducible first | exact HB.out | apply below_alloc | apply pw_below_drewN | apply below_drew1 | refine below_set ?_ GE730.out | refine below_set ?_ GE743.out) | exact HB.out)⟩
     ·replace c46 := Bool.eq_false_iff.mpr c46
      subst c46
      have H1 : (some false) = some r := by rw [if_neg (show ¬ (false = true) by decide)] at H; exact H
      clear H
      have H := H1
      clear H1
      obtain rfl := Option.some.inj H
      go_wp2_with (first | ((with_reducible refine gate_callee (f := 17) rfl ?_); refine goesL_ (some 58) rfl rfl Try.func17 (by kernel_rfl) rfl #[.slice A0 l0.length c0] rfl (by (try simp only [List.map_toArray, List.map_cons, List.map_nil]); first | done | rfl | (simp only [List.length_drop, List.length_take]; rfl)) ?_; (with_reducible refine (laws_toSlotS.calls kj9 _ _ l0 t746 _ ?side1 ?side2 A44.out).mono ?_); (case side1 => repeat (first | exact (Kd.C_below HR0.out HB.out) | (with_reducible refine Kd.C_alloc ?_ _) | (with_reducible refine Kd.C_drewN ?_ _) | (with_reducible refine Kd.C_drew ?_))); (case side2 => exact HC0.out); rintro e w131 ⟨v747, rfl, ho0, hb⟩; refine ⟨_, rfl, ?_⟩; have n0_ := Aside0.mk (Kd.R_below (by (with_reducible repeat (first | apply Kd.R_alloc | apply Kd.R_drewN | apply Kd.R_drew)); exact HO_7.out) hb); have n1_ := Aside0.mk (Kd.R_elder' (by (with_reducible repeat (first | apply Kd.R_alloc | apply Kd.R_drewN | apply Kd.R_drew)); exact HO_9.out) (Kd.R_base ho0) hb); have n2_ := Aside0.mk (Kd.R_below (by (with_reducible repeat (first | apply Kd.R_alloc | apply Kd.R_drewN | apply Kd.R_drew)); exact HO_11.out) hb); have n3_ := Aside0.mk (Kd.R_lower (Kd.R_newB (Kd.R_newB (Kd.R_new' ho0 (Kd.R_lt (by (with_reducible repeat (first | apply Kd.R_alloc | apply Kd.R_drewN | apply Kd.R_drew)); exact HO_9.out))) (g := gb730) (o := .cells #[.string t721, .string t722, .string t723, .string t724, .bool t725] 72 (0, 0)) (by (with_reducible repeat (first | refine blk_drewN ?_ _ | refine blk_drew ?_ | refine blk_alloc ?_ _)); exact BK730.out)) (g := gb743) (o := .cells #[.string t734, .string t735, .string t736, .string t737, .bool t738] 72 (0, 0)) (by (with_reducible repeat (first | refine blk_drewN ?_ _ | refine blk_drew ?_ | refine blk_alloc ?_ _)); exact BK743.out)) (below_size (by repeat (first | (with_reducible first | exact HB.out | apply below_alloc | apply pw_below_drewN | apply below_drew1 | refine below_set ?_ GE730.out | refine below_set ?_ GE743.out) | exact HB.out)))); have n4_ := Aside0.mk (blk_below (g := gb730) (o := .cells #[.string t721, .string t722, .string t723, .string t724, .bool t725] 72 (0, 0)) (by (with_reducible repeat (first | refine blk_drewN ?_ _ | refine blk_drew ?_ | refine blk_alloc ?_ _)); exact BK730.out) hb); have n5_ := Aside0.mk (blk_below (g := gb743) (o := .cells #[.string t734, .string t735, .string t736, .string t737, .bool t738] 72 (0, 0)) (by (with_reducible repeat (first | refine blk_drewN ?_ _ | refine blk_drew ?_ | refine blk_alloc ?_ _)); exact BK743.out) hb); have n6_ := Aside0.mk (below_step (by repeat (first | (with_reducible first | exact HB.out | apply below_alloc | apply pw_below_drewN | apply below_drew1 | refine below_set ?_ GE730.out | refine below_set ?_ GE743.out) | exact HB.out)) hb); clear HO_7; clear HO_9; clear HO_11; clear BK730; clear BK743; clear HB; have HO_7 := n0_; have HO_9 := n1_; have HO_11 := n2_; have HO748 := n3_; have BK730 := n4_; have BK743 := n5_; have HB := n6_; clear n0_ n1_ n2_ n3_ n4_ n5_ n6_; (try clear hb); (try clear hb2); (try clear hk); (try clear hi); (try clear ho0); obtain ⟨Ao132, co132, eo132⟩ := Kd.R_slice HO748.out; subst eo132) | ((with_reducible refine gate_callee (f := 19) rfl ?_); refine goesL_ (some 59) rfl rfl Try.func19 (by kernel_rfl) rfl #[.slice Ao18 t731.length co18, .slice Ao132 t746.length co132] rfl (by (try simp only [List.map_toArray, List.map_cons, List.map_nil]); first | done | rfl | (simp only [List.length_drop, List.length_take]; rfl)) ?_; (with_reducible refine (laws_eqSlotS.calls kj9 _ _ t731 _ _ t746 false _ ?side1 ?side2 ?side3 ?side4 A45.out).mono ?_); (case side1 => repeat (first | exact (Kd.R_reads' HO_9.out).2.2 | (with_reducible refine Kd.C_alloc ?_ _) | (with_reducible refine Kd.C_drewN ?_ _) | (with_reducible refine Kd.C_drew ?_))); (case side2 => exact (Kd.R_reads' HO_9.out).2.1); (case side3 => repeat (first | exact (Kd.R_reads' HO748.out).2.2 | (with_reducible refine Kd.C_alloc ?_ _) | (with_reducible refine Kd.C_drewN ?_ _) | (with_reducible refine Kd.C_drew ?_))); (case side4 => exact (Kd.R_reads' HO748.out).2.1); rintro e w133 ⟨rfl, hb⟩; refine ⟨_, rfl, ?_⟩; have n0_ := Aside0.mk (Kd.R_below (by (with_reducible repeat (first | apply Kd.R_alloc | apply Kd.R_drewN | apply Kd.R_drew)); exact HO_7.out) hb); have n1_ := Aside0.mk (Kd.R_below (by (with_reducible repeat (first | apply Kd.R_alloc | apply Kd.R_drewN | apply Kd.R_drew)); exact HO_9.out) hb); have n2_ := Aside0.mk (Kd.R_below (by (with_reducible repeat (first | apply Kd.R_alloc | apply Kd.R_drewN | apply Kd.R_drew)); exact HO_11.out) hb); have n3_ := Aside0.mk (Kd.R_below (by (with_reducible repeat (first | apply Kd.R_alloc | apply Kd.R_drewN | apply Kd.R_drew)); exact HO748.out) hb); have n4_ := Aside0.mk (blk_below (g := gb730) (o := .cells #[.string t721, .string t722, .string t723, .string t724, .bool t725] 72 (0, 0)) (by (with_reducible repeat (first | refine blk_drewN ?_ _ | refine blk_drew ?_ | refine blk_alloc ?_ _)); exact BK730.out) hb); have n5_ := Aside0.mk (blk_below (g := gb743) (o := .cells #[.string t734, .string t735, .string t736, .string t737, .bool t738] 72 (0, 0)) (by (with_reducible repeat (first | refine blk_drewN ?_ _ | refine blk_drew ?_ | refine blk_alloc ?_ _)); exact BK743.out) hb); have n6_ := Aside0.mk (below_step (by repeat (first | (with_reducible first | exact HB.out | apply below_alloc | apply pw_below_drewN | apply below_drew1 | refine below_set ?_ GE730.out | refine below_set ?_ GE743.out) | exact HB.out)) hb); clear HO_7; clear HO_9; clear HO_11; clear HO748; clear BK730; clear BK743; clear HB; have HO_7 := n0_; have HO_9 := n1_; have HO_11 := n2_; have HO748 := n3_; have BK730 := n4_; have BK743 := n5_; have HB := n6_; clear n0_ n1_ n2_ n3_ n4_ n5_ n6_; (try clear hb); (try clear hb2); (try clear hk); (try clear hi)))
      go_ret
      exact ⟨by first | rfl | (simp [errW_none, errW_some] <;> rfl) | (simp [*, errW_none, errW_some] <;> rfl), by repeat (first | (with_reducible first | exact HB.out | apply below_alloc | apply pw_below_drewN | apply below_drew1 | refine below_set ?_ GE730.out | refine below_set ?_ GE743.out) | exact HB.out)⟩
end Go.Proofs.Ytfajabboibcgpaa.PA
end
section
namespace Go.Proofs.Ytfajabboibcgpaa.PA
open Go.RowKit Go.Proofs.YtfajabboibcgpaaW.PrintWords Go.Proofs.YtfajabboibcgpaaW.PrintLast Go.Proofs.YtfajabboibcgpaaW.PrintMore
attribute [local go_sem] max2_int min2_int max_two min_two max_three min_three max_four min_four   -- for this text's walks alone
set_option linter.unusedVariables false
set_option linter.unusedSimpArgs false
end Go.Proofs.Ytfajabboibcgpaa.PA
end
section
namespace Go.Proofs.Ytfajabboibcgpaa.PA
open Go.RowKit Go.Proofs.YtfajabboibcgpaaW.PrintWords Go.Proofs.YtfajabboibcgpaaW.PrintLast Go.Proofs.YtfajabboibcgpaaW.PrintMore
attribute [local go_sem] max2_int min2_int max_two min_two max_three min_three max_four min_four   -- for this text's walks alone
set_option linter.unusedVariables false
set_option linter.unusedSimpArgs false
end Go.Proofs.Ytfajabboibcgpaa.PA
end
section
namespace Go.Proofs.Ytfajabboibcgpaa.PA
open Go.RowKit Go.Proofs.YtfajabboibcgpaaW.PrintWords Go.Proofs.YtfajabboibcgpaaW.PrintLast Go.Proofs.YtfajabboibcgpaaW.PrintMore
attribute [local go_sem] max2_int min2_int max_two min_two max_three min_three max_four min_four   -- for this text's walks alone
set_option linter.unusedVariables false
set_option linter.unusedSimpArgs false
end Go.Proofs.Ytfajabboibcgpaa.PA
end
section
namespace Go.Proofs.Ytfajabboibcgpaa.PA
open Go.RowKit Go.Proofs.YtfajabboibcgpaaW.PrintWords Go.Proofs.YtfajabboibcgpaaW.PrintLast Go.Proofs.YtfajabboibcgpaaW.PrintMore
attribute [local go_sem] max2_int min2_int max_two min_two max_three min_three max_four min_four   -- for this text's walks alone
set_option linter.unusedVariables false
set_option linter.unusedSimpArgs false
end Go.Proofs.Ytfajabboibcgpaa.PA
end
section
namespace Go.Proofs.Ytfajabboibcgpaa.PB
open Go.RowKit Go.Proofs.YtfajabboibcgpaaW.PrintWords Go.Proofs.YtfajabboibcgpaaW.PrintLast Go.Proofs.YtfajabboibcgpaaW.PrintMore
set_option linter.unusedVariables false
theorem ev_pos {α : Type} {c : Prop} [Decidable c] {f g : Nat → Option α} {r : α} (hc : c) (h : Ev f r) : Ev (fun k => if c then f k else g k) r := by
  simp only [if_pos hc]; exact h
theorem ev_neg {α : Type} {c : Prop} [Decidable c] {f g : Nat → Option α} {r : α} (hc : ¬ c) (h : Ev g r) : Ev (fun k => if c then f k else g k) r := by
  simp only [if_neg hc]; exact h
theorem ev_bind {α β : Type} {g : Nat → Option α} {f : Nat → α → Option β} {a : α} {r : β} (h : Ev g a) (k : Ev (fun n => f n a) r) : Ev (fun n => (g n).bind (f n)) r := Ev.bind h k
theorem ev_const {α β : Type} {o : Option α} {f : Nat → α → Option β} {a : α} {r : β} (h : o = some a) (k : Ev (fun n => f n a) r) : Ev (fun n => o.bind (f n)) r := by
  subst h; exact k
theorem ev_of_eq {α : Type} {o : Option α} {r : α} (h : o = some r) : Ev (fun _ => o) r := by subst h; exact Ev.now r
theorem ev_eq {α : Type} {f : Nat → Option α} {r r' : α} (h : Ev f r) (e : r = r') : Ev f r' := e ▸ h
theorem w64 {x : Int} (h0 : -9223372036854775808 ≤ x) (h1 : x ≤ 9223372036854775807) : wrap64 x = x := by
  unfold wrap64; omega
theorem ba_ext {a b : ByteArray} (h : a.toList = b.toList) : a = b := by
  rw [ByteArray.toList_eq, ByteArray.toList_eq] at h
  have h' : a.data = b.data := Array.toList_inj.mp h
  cases a; cases b; simp_all
theorem ba_iff {a b : ByteArray} : a.toList = b.toList ↔ a = b := ⟨ba_ext, fun h => by rw [h]⟩
theorem ba_beq {a b : ByteArray} : (a.toList == b.toList) = decide (a = b) := by
  by_cases h : a = b
  · subst h; simp
  · simp [h, ba_iff]
theorem size_toList (s : ByteArray) : s.toList.length = s.size := by rw [ByteArray.toList_eq]; exact data_length s
theorem bt_get (s : ByteArray) (i : Nat) (h : i < s.size) : bt s (i : Int) = ((s.toList.getD i 0).toNat : Int) := by
  rw [ByteArray.toList_eq]
  unfold bt
  rw [dif_pos (by simpa using h)]
  have h' : i < s.data.toList.length := by rw [data_length]; exact h
  simp [List.getD_eq_getElem?_getD, List.getElem?_eq_getElem h']
  rfl
end Go.Proofs.Ytfajabboibcgpaa.PB
end
section
namespace Go.Proofs.Ytfajabboibcgpaa.PD
open Go.RowKit Go.Proofs.YtfajabboibcgpaaW.PrintWords Go.Proofs.YtfajabboibcgpaaW.PrintLast Go.Proofs.YtfajabboibcgpaaW.PrintMore Go.Proofs.Ytfajabboibcgpaa.PB Go.Proofs.Ytfajabboibcgpaa.PA
set_option linter.unusedVariables false
def dstep (p : Int × Int) (c : UInt8) : Int × Int := ((p.1 + (c.toNat : Int)) % 65521, (p.2 + (p.1 + (c.toNat : Int)) % 65521) % 65521)
def dfold (p : Int × Int) (l : List UInt8) : Int × Int := l.foldl dstep p
def InP (p : Int × Int) : Prop := 0 ≤ p.1 ∧ p.1 < 65521 ∧ 0 ≤ p.2 ∧ p.2 < 65521
theorem dstep_in {p : Int × Int} {c : UInt8} : InP (dstep p c) := by
  unfold InP dstep; refine ⟨?_, ?_, ?_, ?_⟩ <;> simp only <;> omega
theorem dfold_in {p : Int × Int} (h : InP p) (l : List UInt8) : InP (dfold p l) := by
  induction l generalizing p with
  | nil => exact h
  | cons c l ih => exact ih dstep_in
def four (p : Int × Int) : ByteArray := strOfNums [p.2 / 256 % 256, p.2 % 256, p.1 / 256 % 256, p.1 % 256]
def dig (kind : Int) (s : ByteArray) : ByteArray := four (dfold (kind + 1, kind + 1) s.toList)
theorem four_size (p : Int × Int) : (four p).size = 4 := by unfold four; rw [strOfNums_size]; rfl
theorem dig_size (kind : Int) (s : ByteArray) : (dig kind s).size = 4 := four_size _
theorem drop_at (l : List UInt8) (i : Nat) (h : i < l.length) : l.drop i = l.getD i 0 :: l.drop (i + 1) := by
  rw [List.drop_eq_getElem_cons h]; simp [List.getD_eq_getElem?_getD, List.getElem?_eq_getElem h]
theorem step_arith {A B : Int} {c : Nat} (hA : 0 ≤ A ∧ A < 65521 ∧ 0 ≤ B ∧ B < 65521) (hc : c < 256) :
    Int.tmod (wrap64 (A + wrap64 (c : Int))) 65521 = (A + (c : Int)) % 65521 ∧ Int.tmod (wrap64 (B + (A + (c : Int)) % 65521)) 65521 = (B + (A + (c : Int)) % 65521) % 65521 := by
  have h1 : wrap64 (c : Int) = c := w64 (by omega) (by omega)
  have h2 : wrap64 (A + c) = A + c := w64 (by omega) (by omega)
  have h3 : wrap64 (B + (A + (c : Int)) % 65521) = B + (A + (c : Int)) % 65521 := w64 (by omega) (by omega)
  rw [h1, h2, h3, Int.tmod_eq_emod_of_nonneg (by omega), Int.tmod_eq_emod_of_nonneg (by omega)]
  exact ⟨rfl, rfl⟩
theorem feed_spec (s : ByteArray) (hs : s.size ≤ 1000000000000) (L : Int) (hL : 0 ≤ L ∧ L ≤ 1000000000000) : ∀ (d i : Nat) (A B : Int), i + d = s.size → InP (A, B) →
    Ev (fun k => spec_l1Feed.l0 k s (i : Int) A B L) ((dfold (A, B) (s.toList.drop i)).1, (dfold (A, B) (s.toList.drop i)).2, L + s.size) := by
  intro d
  induction d with
  | zero =>
    intro i A B hi hp
    refine Ev.step (f := fun _ => some (A, B, wrap64 (L + (s.size : Int)))) (fun k => ?_) ?_
    · simp only [spec_l1Feed.l0]; rw [if_neg (by omega)]
    · rw [List.drop_eq_nil_of_le (by rw [size_toList]; omega)]
      rw [w64 (by omega) (by omega)]
      exact Ev.now _
  | succ d ih =>
    intro i A B hi hp
    have hlt : i < s.size := by omega
    have hb := bt_get s i hlt
    have hc : (s.toList.getD i 0).toNat < 256 := UInt8.toNat_lt _
    have ha := step_arith (A := A) (B := B) hp hc
    refine Ev.step (f := fun k => spec_l1Feed.l0 k s ((i + 1 : Nat) : Int) (dstep (A, B) (s.toList.getD i 0)).1 (dstep (A, B) (s.toList.getD i 0)).2 L) (fun k => ?_) ?_
    · simp only [spec_l1Feed.l0]; rw [if_pos (by omega), if_pos (by omega), hb, ha.1, ha.2, w64 (x := (i : Int) + 1) (by omega) (by omega)]
      simp only [dstep]
      congr 1
    · rw [drop_at _ _ (by rw [size_toList]; exact hlt)]
      exact ih (i + 1) _ _ (by omega) dstep_in
theorem feed_impl (s : ByteArray) (hs : s.size ≤ 1000000000000) (L : Int) (hL : 0 ≤ L ∧ L ≤ 1000000000000) : ∀ (d i : Nat) (A B : Int), i + d = s.size → InP (A, B) →
    Ev (fun k => impl_Mix_feed.l0 k s (s.size : Int) (i : Int) A B L) ((dfold (A, B) (s.toList.drop i)).1, (dfold (A, B) (s.toList.drop i)).2, L + s.size) := by
  intro d
  induction d with
  | zero =>
    intro i A B hi hp
    refine Ev.step (f := fun _ => some (A, B, wrap64 (L + (s.size : Int)))) (fun k => ?_) ?_
    · simp only [impl_Mix_feed.l0]; rw [if_neg (by omega)]
    · rw [List.drop_eq_nil_of_le (by rw [size_toList]; omega)]
      rw [w64 (by omega) (by omega)]
      exact Ev.now _
  | succ d ih =>
    intro i A B hi hp
    have hlt : i < s.size := by omega
    have hb := bt_get s i hlt
    have hc : (s.toList.getD i 0).toNat < 256 := UInt8.toNat_lt _
    have ha := step_arith (A := A) (B := B) hp hc
    refine Ev.step (f := fun k => impl_Mix_feed.l0 k s (s.size : Int) ((i + 1 : Nat) : Int) (dstep (A, B) (s.toList.getD i 0)).1 (dstep (A, B) (s.toList.getD i 0)).2 L) (fun k => ?_) ?_
    · simp only [impl_Mix_feed.l0]; rw [if_pos (by omega), if_pos (by omega), if_pos (by omega), hb, ha.1, ha.2, w64 (x := (i : Int) + 1) (by omega) (by omega)]
      simp only [dstep]
      congr 1
    · rw [drop_at _ _ (by rw [size_toList]; exact hlt)]
      exact ih (i + 1) _ _ (by omega) dstep_in
def Kd_ (c : Int) : Prop := 97 ≤ c ∧ c ≤ 122
theorem digS (kind : Int) (hk : Kd_ kind) (s : ByteArray) (hs : s.size ≤ 1000000000000) : Ev (fun k => spec_l1Digest.f k kind s) (dig kind s) := by
  obtain ⟨h0, h1⟩ := hk
  have e1 : spec_NewMix.f kind = some (kind + 1, kind + 1, 0, true) := by
    unfold spec_NewMix.f spec_l1Kind.f
    rw [if_pos (by omega)]
    simp only [Option.bind_some, decide_eq_true h1, if_true]
    rw [w64 (x := kind) (by omega) (by omega), w64 (by omega) (by omega), Int.add_comm]
  have hp : InP (kind + 1, kind + 1) := by unfold InP; refine ⟨?_, ?_, ?_, ?_⟩ <;> simp only <;> omega
  obtain ⟨K, h⟩ := feed_spec s hs 0 (by omega) s.size 0 (kind + 1) (kind + 1) (by omega) hp
  refine ⟨K, fun k hk => ?_⟩
  have h' := h k hk
  dsimp only at h'
  rw [show ((0 : Nat) : Int) = 0 from rfl] at h'
  unfold spec_l1Digest.f spec_l1Feed.f spec_l1End.f
  simp only [e1, Option.bind_some]
  rw [h']
  simp only [Option.bind_some, List.drop_zero]
  rfl
theorem digI (kind : Int) (hk : Kd_ kind) (s : ByteArray) (hs : s.size ≤ 1000000000000) : Ev (fun k => impl_digest.f k kind s) (dig kind s) := by
  obtain ⟨h0, h1⟩ := hk
  have e1 : impl_newMix.f kind = some (kind + 1, kind + 1, 0) := by
    unfold impl_newMix.f
    rw [w64 (x := kind) (by omega) (by omega), w64 (by omega) (by omega)]
  have hp : InP (kind + 1, kind + 1) := by unfold InP; refine ⟨?_, ?_, ?_, ?_⟩ <;> simp only <;> omega
  obtain ⟨K, h⟩ := feed_impl s hs 0 (by omega) s.size 0 (kind + 1) (kind + 1) (by omega) hp
  refine ⟨K, fun k hk => ?_⟩
  have h' := h k hk
  dsimp only at h'
  rw [show ((0 : Nat) : Int) = 0 from rfl] at h'
  have hq := dfold_in hp s.toList
  unfold impl_digest.f impl_Mix_feed.f impl_Mix_end.f
  simp only [e1, Option.bind_some]
  rw [h']
  simp only [Option.bind_some, List.drop_zero]
  unfold dig four
  generalize dfold (kind + 1, kind + 1) s.toList = p at hq ⊢
  obtain ⟨q0, q1, q2, q3⟩ := hq
  rw [Int.tdiv_eq_ediv_of_nonneg q2, Int.tdiv_eq_ediv_of_nonneg q0, Int.tmod_eq_emod_of_nonneg q2, Int.tmod_eq_emod_of_nonneg q0, w64 (x := p.2 / 256) (by omega) (by omega), w64 (x := p.1 / 256) (by omega) (by omega)]
  rw [Int.emod_emod_of_dvd p.2 (Int.dvd_refl _), Int.emod_emod_of_dvd p.1 (Int.dvd_refl _)]
def one (n : Int) : ByteArray := strOfNums [n % 256]
theorem one_size (n : Int) : (one n).size = 1 := by unfold one; rw [strOfNums_size]; rfl
theorem oneI (n : Int) : impl_oneByte.f n = some (one n) := rfl
end Go.Proofs.Ytfajabboibcgpaa.PD
end
section
namespace Go.Proofs.Ytfajabboibcgpaa.PK
open Go.RowKit Go.Proofs.YtfajabboibcgpaaW.PrintWords Go.Proofs.YtfajabboibcgpaaW.PrintLast Go.Proofs.YtfajabboibcgpaaW.PrintMore Go.Proofs.Ytfajabboibcgpaa.PB Go.Proofs.Ytfajabboibcgpaa.PD Go.Proofs.Ytfajabboibcgpaa.PA
set_option linter.unusedVariables false
theorem app_size (a b : ByteArray) : (a ++ b).size = a.size + b.size := ByteArray.size_append
end Go.Proofs.Ytfajabboibcgpaa.PK
end
