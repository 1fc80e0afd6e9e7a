/- For the law FnAudit: what it needs of the words, of the printed functions and of the plain laws, in few texts (laid by merge.py of this workplace). -/
import Derived.Test.YthhkkhnjkoacnaaMFnAuditd
import Derived.Laws.BitsLemmas
section
namespace Go.Proofs.Ythhkkhnjkoacnaa.PA
open Go.RowKit Go.Proofs.YthhkkhnjkoacnaaW.PrintWords Go.Proofs.YthhkkhnjkoacnaaW.PrintLast Go.Proofs.YthhkkhnjkoacnaaW.PrintMore
attribute [local go_sem] max2_int min2_int max_two min_two max_three min_three max_four min_four
set_option linter.unusedVariables false
set_option linter.unusedSimpArgs false
set_option maxHeartbeats 60000000
set_option maxRecDepth 100000
def laws_sameChain.l0 : Nat → List (S89) → List (S89) → Int → Int → Option (Bool)
 | 0, _, _, _, _ => none
 | k + 1, x0, x1, x12, x13 => if x13 < x12 then (if 0 ≤ x13 then (if x13 < (x0.length : Int) then (if x13 < (x1.length : Int) then ((laws_sameBlock.f k ((rd_T89 x0 x13).f0) ((rd_T89 x0 x13).f1) ((rd_T89 x0 x13).f2) ((rd_T89 x1 x13).f0) ((rd_T89 x1 x13).f1) ((rd_T89 x1 x13).f2)).bind fun t10 => (if t10 = true then (laws_sameChain.l0 k x0 x1 x12 (wrap64 (x13 + 1))) else (some false))) else (none)) else (none)) else (none)) else (some true)
def laws_sameChain.f (k : Nat) (l0 : List (S89)) (l1 : List (S89)) : Option (Bool) := if (l0.length : Int) = (l1.length : Int) then (laws_sameChain.l0 k l0 l1 (l0.length : Int) 0) else (some false)
def laws_sameChain.T6 : Bool × List (List Nat × List Nat) := (true, [([], []), ([], []), ([0, 1], [0, 1]), ([2], [2]), ([], []), ([], []), ([4, 5], [4, 5]), ([6], [6]), ([3, 7], [3, 7]), ([8], [8])])
def laws_sameChain.B6 : List Nat := [0, 0, 3, 7, 0, 0, 48, 112, 255, 511]
theorem laws_sameChain.tab6 : rtab .any (opsOf Try.f45 6) = laws_sameChain.T6 := by kernel_rfl
theorem laws_sameChain.bits6 : waitsOk laws_sameChain.T6.2 laws_sameChain.B6 = true := by kernel_rfl
theorem laws_sameChain.calls (k : Nat) (A0 : Option Addr) (c0 : Nat) (l0 : List (S89)) (A1 : Option Addr) (c1 : Nat) (l1 : List (S89)) (r : Bool) (w : World) (hr0 : Kd.C k89 w A0 l0.length l0) (hc0 : l0.length ≤ c0) (hr1 : Kd.C k89 w A1 l1.length l1) (hc1 : l1.length ≤ c1) (h : laws_sameChain.f k l0 l1 = some r) :
  Calls Try.prog 45 #[.slice A0 l0.length c0, .slice A1 l1.length c1] w fun e w' => e = .returned (.bool r) ∧ Below w.heap.size w w' := by
 have hu89 := Try.underlying89; have HR0 := zA hr0; have HC0 := zA hc0; clear hr0 hc0; have HR1 := zA hr1; have HC1 := zA hc1; clear hr1 hc1; have HB := zA (Below.refl w.heap.size w); have H : (if (l0.length : Int) = (l1.length : Int) then (laws_sameChain.l0 k l0 l1 (l0.length : Int) 0) else (some false)) = some r := h; clear h
 by_cases c3 : (l0.length : Int) = (l1.length : Int)
 ·rw [if_pos c3] at H
  have c3b0 : ((l0.length : Int) == (l1.length : Int)) = true := beq_iff_eq.mpr c3; have c3b1 : ((l0.length : Int) != (l1.length : Int)) = false := bne_eq_false_iff_eq.mpr c3; have c3b2 : (l0.length == l1.length) = true := by first | simpa using c3 | (simp at c3 ⊢; omega)
  clear c3; have H' := zA H; clear H; go_enter Try.func45, Try.ntmps45; go_wp2; go_loopg [13] k (fun kq v13 w' => ∃ (x13_1 : Int), v13 = .int .i64 x13_1 ∧ Aside0 (laws_sameChain.l0 kq l0 l1 (l0.length : Int) x13_1 = some r) ∧ Aside0 (kq ≤ k) ∧ Aside0 (Below w.heap.size w w'))
  case atStart => exact ⟨(0), (by first | rfl | (simp; done) | (simp [*]; done) | (simp [bne]; done)), H', ⟨Nat.le_refl _⟩, ⟨by repeat (first | (with_reducible first | exact HB.out | apply zH | apply zF | apply zG) | exact HB.out)⟩⟩
  case round =>
   clear H'
   try clear c1
   try clear p2
   try clear c3
   try clear c3b0
   try clear c3b1
   try clear c3b2
   obtain ⟨x13_1, rfl, HA, HK1, HB⟩ := hrel
   cases gk with
   | zero => exact absurd HA.out (by simp [laws_sameChain.l0])
   | succ k1 =>
    have H := HA.out; clear HA; simp only [laws_sameChain.l0] at H
    by_cases c4 : x13_1 < (l0.length : Int)
    ·rw [if_pos c4] at H
     have c4b0 : decide (x13_1 < (l0.length : Int)) = true := zX c4; clear c4
     by_cases c5 : 0 ≤ x13_1
     ·rw [if_pos c5] at H
      have c5b0 : decide (0 ≤ x13_1) = true := zX c5; clear c5
      by_cases c6 : x13_1 < (l0.length : Int)
      ·rw [if_pos c6] at H
       have c6b0 : decide (x13_1 < (l0.length : Int)) = true := zX c6; clear c6
       by_cases c7 : x13_1 < (l1.length : Int)
       ·rw [if_pos c7] at H
        have c7b0 : decide (x13_1 < (l1.length : Int)) = true := zX c7; clear c7; replace H := zAF H; obtain ⟨t14, A80, H⟩ := H; replace H : (if t14 = true then (laws_sameChain.l0 k1 l0 l1 (l0.length : Int) (wrap64 (x13_1 + 1))) else (some false)) = some r := H; have A8 := zA A80; clear A80
        by_cases c9 : t14 = true
        ·subst c9
         have H1 : (laws_sameChain.l0 k1 l0 l1 (l0.length : Int) (wrap64 (x13_1 + 1))) = some r := by rw [if_pos rfl] at H; exact H
         clear H; have H := H1; clear H1; have H' := zA H; clear H
         try go_wp2
         have n0_ := zA (zG HB.out); clear HB; have HB := n0_; clear n0_; have p15 : 0 ≤ (x13_1 : Int) := zW (by first | (with_reducible assumption) | assumption); have q15 : x13_1 < (l0.length : Int) := zW (by first | (with_reducible assumption) | assumption); obtain ⟨ad15, A15_2, c15_2, e15, hx15_0, hx15_1, hx15_2, hl15_2, hi15_2⟩ := at_T89 HR0.out x13_1 p15 q15; have hw15_2 := hx15_2; have hw15_1 := hx15_1; have hw15_0 := hx15_0
         cases e15
         replace hx15_0 := (HB.out.cell (zB w _ hx15_0)).trans hx15_0; replace hx15_1 := (HB.out.cell (zB w _ hx15_1)).trans hx15_1; replace hx15_2 := (HB.out.cell (zB w _ hx15_2)).trans hx15_2; have HR15_2 := zA hi15_2; have HC15_2 := zA hl15_2; clear hi15_2 hl15_2; replace p15 := eq_true p15; replace q15 := eq_true q15; have p16 : 0 ≤ (x13_1 : Int) := zW (by first | (with_reducible assumption) | assumption); have q16 : x13_1 < (l1.length : Int) := zW (by first | (with_reducible assumption) | assumption); obtain ⟨ad16, A16_2, c16_2, e16, hx16_0, hx16_1, hx16_2, hl16_2, hi16_2⟩ := at_T89 HR1.out x13_1 p16 q16; have hw16_2 := hx16_2; have hw16_1 := hx16_1; have hw16_0 := hx16_0
         cases e16
         replace hx16_0 := (HB.out.cell (zB w _ hx16_0)).trans hx16_0; replace hx16_1 := (HB.out.cell (zB w _ hx16_1)).trans hx16_1; replace hx16_2 := (HB.out.cell (zB w _ hx16_2)).trans hx16_2; have HR16_2 := zA hi16_2; have HC16_2 := zA hl16_2; clear hi16_2 hl16_2; replace p16 := eq_true p16; replace q16 := eq_true q16; refine start_ (n := 10) (S := fun w' => w'.cell? (ad15.add ((x13_1).toNat * 3)) = some (.string ((rd_T89 l0 x13_1).f0)) ∧ w'.cell? ⟨(ad15.add ((x13_1).toNat * 3)).block, (ad15.add ((x13_1).toNat * 3)).off + 1, none⟩ = some (.string ((rd_T89 l0 x13_1).f1)) ∧ w'.cell? ⟨(ad15.add ((x13_1).toNat * 3)).block, (ad15.add ((x13_1).toNat * 3)).off + 2, none⟩ = some (.slice A15_2 ((rd_T89 l0 x13_1).f2).length c15_2) ∧ w'.cell? (ad16.add ((x13_1).toNat * 3)) = some (.string ((rd_T89 l1 x13_1).f0)) ∧ w'.cell? ⟨(ad16.add ((x13_1).toNat * 3)).block, (ad16.add ((x13_1).toNat * 3)).off + 1, none⟩ = some (.string ((rd_T89 l1 x13_1).f1)) ∧ w'.cell? ⟨(ad16.add ((x13_1).toNat * 3)).block, (ad16.add ((x13_1).toNat * 3)).off + 2, none⟩ = some (.slice A16_2 ((rd_T89 l1 x13_1).f2).length c16_2)) (ds := []) #[false, false, false, false, false, false, false, false, false, false] (by kernel_rfl) rfl rfl ⟨((HB.out.cell (zB w _ hw15_0)).trans hw15_0), ((HB.out.cell (zB w _ hw15_1)).trans hw15_1), ((HB.out.cell (zB w _ hw15_2)).trans hw15_2), ((HB.out.cell (zB w _ hw16_0)).trans hw16_0), ((HB.out.cell (zB w _ hw16_1)).trans hw16_1), ((HB.out.cell (zB w _ hw16_2)).trans hw16_2)⟩ (fun hHeld => ?_); refine with_tabW laws_sameChain.tab6 laws_sameChain.bits6 (fun HT_ HW_ => ?_); generalize wr.drew = w10 at HB HR15_2 HR16_2 hx15_0 hx15_1 hx15_2 hx16_0 hx16_1 hx16_2 hHeld ⊢; refine pure_ (i := 0) (N := some 16) (v := ?_) (a' := ?_) #[true, false, false, false, false, false, false, false, false, false] rfl rfl (any_of HT_.out (by kernel_rfl)) (fun _ _ _ h => h) (Or.inl ⟨by rfl, ?_⟩) ?_ ?_; rotate_left
         ·intro w'
          go_simp
          with_reducible rfl
         rotate_left
         ·simp only [Act.put, zC, zD, zE, i64_w, i32_w]
          rfl
         refine pure_ (i := 1) (N := some 17) (v := ?_) (a' := ?_) #[true, true, false, false, false, false, false, false, false, false] rfl rfl (any_of HT_.out (by kernel_rfl)) (fun _ _ _ h => h) (Or.inl ⟨by rfl, ?_⟩) ?_ ?_; rotate_left
         ·intro w'
          go_simp
          with_reducible rfl
         rotate_left
         ·simp only [Act.put, zC, zD, zE, i64_w, i32_w]
          rfl
         refine pure_ (i := 2) (N := some 18) (v := ?_) (a' := ?_) #[true, true, true, false, false, false, false, false, false, false] rfl rfl (any_of HT_.out (by kernel_rfl)) (fun _ _ _ h => h) (Or.inl ⟨by rfl, ?_⟩) ?_ ?_; rotate_left
         ·intro w'
          go_simp
          with_reducible rfl
         rotate_left
         ·simp only [Act.put, zC, zD, zE, i64_w, i32_w]
          rfl
         refine pure_ (i := 4) (N := some 20) (v := ?_) (a' := ?_) #[true, true, true, false, true, false, false, false, false, false] rfl rfl (any_of HT_.out (by kernel_rfl)) (fun _ _ _ h => h) (Or.inl ⟨by rfl, ?_⟩) ?_ ?_; rotate_left
         ·intro w'
          go_simp
          with_reducible rfl
         rotate_left
         ·simp only [Act.put, zC, zD, zE, i64_w, i32_w]
          rfl
         refine pure_ (i := 5) (N := some 21) (v := ?_) (a' := ?_) #[true, true, true, false, true, true, false, false, false, false] rfl rfl (any_of HT_.out (by kernel_rfl)) (fun _ _ _ h => h) (Or.inl ⟨by rfl, ?_⟩) ?_ ?_; rotate_left
         ·intro w'
          go_simp
          with_reducible rfl
         rotate_left
         ·simp only [Act.put, zC, zD, zE, i64_w, i32_w]
          rfl
         refine pure_ (i := 6) (N := some 22) (v := ?_) (a' := ?_) #[true, true, true, false, true, true, true, false, false, false] rfl rfl (any_of HT_.out (by kernel_rfl)) (fun _ _ _ h => h) (Or.inl ⟨by rfl, ?_⟩) ?_ ?_; rotate_left
         ·intro w'
          go_simp
          with_reducible rfl
         rotate_left
         ·simp only [Act.put, zC, zD, zE, i64_w, i32_w]
          rfl
         refine take_ (i := 3) (N := some 19) (v := ?_) (a' := ?_) #[true, true, true, true, true, true, true, false, false, false] rfl rfl (take_ofW HT_.out HW_.out (by kernel_rfl)) (fun _ _ _ h => h) (Or.inl ⟨by rfl, ?_⟩) hHeld ?_ ?_; rotate_left
         ·rintro w' ⟨s0, s1, s2, s3, s4, s5⟩
          go_simp
          with_reducible rfl
         rotate_left
         ·simp only [Act.put, zC, zD, zE, i64_w, i32_w]
          rfl
         refine take_ (i := 7) (N := some 23) (v := ?_) (a' := ?_) #[true, true, true, true, true, true, true, true, false, false] rfl rfl (take_ofW HT_.out HW_.out (by kernel_rfl)) (fun _ _ _ h => h) (Or.inl ⟨by rfl, ?_⟩) hHeld ?_ ?_; rotate_left
         ·rintro w' ⟨s0, s1, s2, s3, s4, s5⟩
          go_simp
          with_reducible rfl
         rotate_left
         ·simp only [Act.put, zC, zD, zE, i64_w, i32_w]
          rfl
         refine one_ (i := 8) (N := some 24) #[true, true, true, true, true, true, true, true, true, false] rfl rfl (one_of HT_.out (by kernel_rfl)) (by decide) (fun K hK => ?_); refine goes_ Try.func64 (by kernel_rfl) rfl #[.agg #[.string ((rd_T89 l0 x13_1).f0), .string ((rd_T89 l0 x13_1).f1), .slice A15_2 ((rd_T89 l0 x13_1).f2).length c15_2], .agg #[.string ((rd_T89 l1 x13_1).f0), .string ((rd_T89 l1 x13_1).f1), .slice A16_2 ((rd_T89 l1 x13_1).f2).length c16_2]] (by rfl) rfl rfl (by (try simp only [zAA, zAB, zAC]); first | done | rfl | (simp only [zZ, zY]; rfl)) ?_
         with_reducible refine (laws_sameBlock.calls k1 ((rd_T89 l0 x13_1).f0) ((rd_T89 l0 x13_1).f1) _ _ ((rd_T89 l0 x13_1).f2) ((rd_T89 l1 x13_1).f0) ((rd_T89 l1 x13_1).f1) _ _ ((rd_T89 l1 x13_1).f2) true _ ?side1 ?side2 ?side3 ?side4 A8.out).mono ?_
         (case side1 => repeat (first | exact (Kd.C_below HR15_2.out HB.out) | (with_reducible refine zT ?_ _) | (with_reducible refine zU ?_ _) | (with_reducible refine zV ?_))); (case side2 => exact HC15_2.out); (case side3 => repeat (first | exact (Kd.C_below HR16_2.out HB.out) | (with_reducible refine zT ?_ _) | (with_reducible refine zU ?_ _) | (with_reducible refine zV ?_))); (case side4 => exact HC16_2.out); rintro e w11 ⟨rfl, hb⟩; refine ⟨_, rfl, ?_⟩; have n0_ := zA (zAD (by repeat (first | (with_reducible first | exact HB.out | apply zH | apply zF | apply zG) | exact HB.out)) hb); clear HB; have HB := n0_; clear n0_; (try clear hb); refine hK.out _ _ ⟨((HB.out.cell (zB w _ hw15_0)).trans hw15_0), ((HB.out.cell (zB w _ hw15_1)).trans hw15_1), ((HB.out.cell (zB w _ hw15_2)).trans hw15_2), ((HB.out.cell (zB w _ hw16_0)).trans hw16_0), ((HB.out.cell (zB w _ hw16_1)).trans hw16_1), ((HB.out.cell (zB w _ hw16_2)).trans hw16_2)⟩ (fun hHeld => ?_); clear hK K; refine norm_ (a' := ?_) ?_ ?_; rotate_left
         ·show Act.put _ (some 24) _ = _
          simp only [Act.put, zC, zD, zE, i64_w, i32_w]; rfl
         refine pure_ (i := 9) (N := some 25) (v := ?_) (a' := ?_) #[true, true, true, true, true, true, true, true, true, true] rfl rfl (any_of HT_.out (by kernel_rfl)) (fun _ _ _ h => h) (Or.inl ⟨by rfl, ?_⟩) ?_ ?_; rotate_left
         ·intro w'
          go_simp
          with_reducible rfl
         rotate_left
         ·simp only [Act.put, zC, zD, zE, i64_w, i32_w]
          rfl
         refine done_ (done_of HT_.out (by kernel_rfl)) ?_
         try go_wp2
         go_roundg k1
         case measure => have := HK1.out; omega
         case rel => exact ⟨(wrap64 (x13_1 + 1)), (by first | rfl | (simp; done) | (simp [*]; done) | (simp [bne]; done)), H', ⟨by have := HK1.out; omega⟩, ⟨by repeat (first | (with_reducible first | exact HB.out | apply zH | apply zF | apply zG) | exact HB.out)⟩⟩
        ·replace c9 := Bool.eq_false_iff.mpr c9
         subst c9; have H1 : (some false) = some r := by rw [if_neg (show ¬ (false = true) by decide)] at H; exact H
         clear H; have H := H1; clear H1; obtain rfl := Option.some.inj H
         try go_wp2
         have n0_ := zA (zG HB.out); clear HB; have HB := n0_; clear n0_; have p15 : 0 ≤ (x13_1 : Int) := zW (by first | (with_reducible assumption) | assumption); have q15 : x13_1 < (l0.length : Int) := zW (by first | (with_reducible assumption) | assumption); obtain ⟨ad15, A15_2, c15_2, e15, hx15_0, hx15_1, hx15_2, hl15_2, hi15_2⟩ := at_T89 HR0.out x13_1 p15 q15; have hw15_2 := hx15_2; have hw15_1 := hx15_1; have hw15_0 := hx15_0
         cases e15
         replace hx15_0 := (HB.out.cell (zB w _ hx15_0)).trans hx15_0; replace hx15_1 := (HB.out.cell (zB w _ hx15_1)).trans hx15_1; replace hx15_2 := (HB.out.cell (zB w _ hx15_2)).trans hx15_2; have HR15_2 := zA hi15_2; have HC15_2 := zA hl15_2; clear hi15_2 hl15_2; replace p15 := eq_true p15; replace q15 := eq_true q15; have p16 : 0 ≤ (x13_1 : Int) := zW (by first | (with_reducible assumption) | assumption); have q16 : x13_1 < (l1.length : Int) := zW (by first | (with_reducible assumption) | assumption); obtain ⟨ad16, A16_2, c16_2, e16, hx16_0, hx16_1, hx16_2, hl16_2, hi16_2⟩ := at_T89 HR1.out x13_1 p16 q16; have hw16_2 := hx16_2; have hw16_1 := hx16_1; have hw16_0 := hx16_0
         cases e16
         replace hx16_0 := (HB.out.cell (zB w _ hx16_0)).trans hx16_0; replace hx16_1 := (HB.out.cell (zB w _ hx16_1)).trans hx16_1; replace hx16_2 := (HB.out.cell (zB w _ hx16_2)).trans hx16_2; have HR16_2 := zA hi16_2; have HC16_2 := zA hl16_2; clear hi16_2 hl16_2; replace p16 := eq_true p16; replace q16 := eq_true q16; refine start_ (n := 10) (S := fun w' => w'.cell? (ad15.add ((x13_1).toNat * 3)) = some (.string ((rd_T89 l0 x13_1).f0)) ∧ w'.cell? ⟨(ad15.add ((x13_1).toNat * 3)).block, (ad15.add ((x13_1).toNat * 3)).off + 1, none⟩ = some (.string ((rd_T89 l0 x13_1).f1)) ∧ w'.cell? ⟨(ad15.add ((x13_1).toNat * 3)).block, (ad15.add ((x13_1).toNat * 3)).off + 2, none⟩ = some (.slice A15_2 ((rd_T89 l0 x13_1).f2).length c15_2) ∧ w'.cell? (ad16.add ((x13_1).toNat * 3)) = some (.string ((rd_T89 l1 x13_1).f0)) ∧ w'.cell? ⟨(ad16.add ((x13_1).toNat * 3)).block, (ad16.add ((x13_1).toNat * 3)).off + 1, none⟩ = some (.string ((rd_T89 l1 x13_1).f1)) ∧ w'.cell? ⟨(ad16.add ((x13_1).toNat * 3)).block, (ad16.add ((x13_1).toNat * 3)).off + 2, none⟩ = some (.slice A16_2 ((rd_T89 l1 x13_1).f2).length c16_2)) (ds := []) #[false, false, false, false, false, false, false, false, false, false] (by kernel_rfl) rfl rfl ⟨((HB.out.cell (zB w _ hw15_0)).trans hw15_0), ((HB.out.cell (zB w _ hw15_1)).trans hw15_1), ((HB.out.cell (zB w _ hw15_2)).trans hw15_2), ((HB.out.cell (zB w _ hw16_0)).trans hw16_0), ((HB.out.cell (zB w _ hw16_1)).trans hw16_1), ((HB.out.cell (zB w _ hw16_2)).trans hw16_2)⟩ (fun hHeld => ?_); refine with_tabW laws_sameChain.tab6 laws_sameChain.bits6 (fun HT_ HW_ => ?_); generalize wr.drew = w12 at HB HR15_2 HR16_2 hx15_0 hx15_1 hx15_2 hx16_0 hx16_1 hx16_2 hHeld ⊢; refine pure_ (i := 0) (N := some 16) (v := ?_) (a' := ?_) #[true, false, false, false, false, false, false, false, false, false] rfl rfl (any_of HT_.out (by kernel_rfl)) (fun _ _ _ h => h) (Or.inl ⟨by rfl, ?_⟩) ?_ ?_; rotate_left
         ·intro w'
          go_simp
          with_reducible rfl
         rotate_left
         ·simp only [Act.put, zC, zD, zE, i64_w, i32_w]
          rfl
         refine pure_ (i := 1) (N := some 17) (v := ?_) (a' := ?_) #[true, true, false, false, false, false, false, false, false, false] rfl rfl (any_of HT_.out (by kernel_rfl)) (fun _ _ _ h => h) (Or.inl ⟨by rfl, ?_⟩) ?_ ?_; rotate_left
         ·intro w'
          go_simp
          with_reducible rfl
         rotate_left
         ·simp only [Act.put, zC, zD, zE, i64_w, i32_w]
          rfl
         refine pure_ (i := 2) (N := some 18) (v := ?_) (a' := ?_) #[true, true, true, false, false, false, false, false, false, false] rfl rfl (any_of HT_.out (by kernel_rfl)) (fun _ _ _ h => h) (Or.inl ⟨by rfl, ?_⟩) ?_ ?_; rotate_left
         ·intro w'
          go_simp
          with_reducible rfl
         rotate_left
         ·simp only [Act.put, zC, zD, zE, i64_w, i32_w]
          rfl
         refine pure_ (i := 4) (N := some 20) (v := ?_) (a' := ?_) #[true, true, true, false, true, false, false, false, false, false] rfl rfl (any_of HT_.out (by kernel_rfl)) (fun _ _ _ h => h) (Or.inl ⟨by rfl, ?_⟩) ?_ ?_; rotate_left
         ·intro w'
          go_simp
          with_reducible rfl
         rotate_left
         ·simp only [Act.put, zC, zD, zE, i64_w, i32_w]
          rfl
         refine pure_ (i := 5) (N := some 21) (v := ?_) (a' := ?_) #[true, true, true, false, true, true, false, false, false, false] rfl rfl (any_of HT_.out (by kernel_rfl)) (fun _ _ _ h => h) (Or.inl ⟨by rfl, ?_⟩) ?_ ?_; rotate_left
         ·intro w'
          go_simp
          with_reducible rfl
         rotate_left
         ·simp only [Act.put, zC, zD, zE, i64_w, i32_w]
          rfl
         refine pure_ (i := 6) (N := some 22) (v := ?_) (a' := ?_) #[true, true, true, false, true, true, true, false, false, false] rfl rfl (any_of HT_.out (by kernel_rfl)) (fun _ _ _ h => h) (Or.inl ⟨by rfl, ?_⟩) ?_ ?_; rotate_left
         ·intro w'
          go_simp
          with_reducible rfl
         rotate_left
         ·simp only [Act.put, zC, zD, zE, i64_w, i32_w]
          rfl
         refine take_ (i := 3) (N := some 19) (v := ?_) (a' := ?_) #[true, true, true, true, true, true, true, false, false, false] rfl rfl (take_ofW HT_.out HW_.out (by kernel_rfl)) (fun _ _ _ h => h) (Or.inl ⟨by rfl, ?_⟩) hHeld ?_ ?_; rotate_left
         ·rintro w' ⟨s0, s1, s2, s3, s4, s5⟩
          go_simp
          with_reducible rfl
         rotate_left
         ·simp only [Act.put, zC, zD, zE, i64_w, i32_w]
          rfl
         refine take_ (i := 7) (N := some 23) (v := ?_) (a' := ?_) #[true, true, true, true, true, true, true, true, false, false] rfl rfl (take_ofW HT_.out HW_.out (by kernel_rfl)) (fun _ _ _ h => h) (Or.inl ⟨by rfl, ?_⟩) hHeld ?_ ?_; rotate_left
         ·rintro w' ⟨s0, s1, s2, s3, s4, s5⟩
          go_simp
          with_reducible rfl
         rotate_left
         ·simp only [Act.put, zC, zD, zE, i64_w, i32_w]
          rfl
         refine one_ (i := 8) (N := some 24) #[true, true, true, true, true, true, true, true, true, false] rfl rfl (one_of HT_.out (by kernel_rfl)) (by decide) (fun K hK => ?_); refine goes_ Try.func64 (by kernel_rfl) rfl #[.agg #[.string ((rd_T89 l0 x13_1).f0), .string ((rd_T89 l0 x13_1).f1), .slice A15_2 ((rd_T89 l0 x13_1).f2).length c15_2], .agg #[.string ((rd_T89 l1 x13_1).f0), .string ((rd_T89 l1 x13_1).f1), .slice A16_2 ((rd_T89 l1 x13_1).f2).length c16_2]] (by rfl) rfl rfl (by (try simp only [zAA, zAB, zAC]); first | done | rfl | (simp only [zZ, zY]; rfl)) ?_
         with_reducible refine (laws_sameBlock.calls k1 ((rd_T89 l0 x13_1).f0) ((rd_T89 l0 x13_1).f1) _ _ ((rd_T89 l0 x13_1).f2) ((rd_T89 l1 x13_1).f0) ((rd_T89 l1 x13_1).f1) _ _ ((rd_T89 l1 x13_1).f2) false _ ?side1 ?side2 ?side3 ?side4 A8.out).mono ?_
         (case side1 => repeat (first | exact (Kd.C_below HR15_2.out HB.out) | (with_reducible refine zT ?_ _) | (with_reducible refine zU ?_ _) | (with_reducible refine zV ?_))); (case side2 => exact HC15_2.out); (case side3 => repeat (first | exact (Kd.C_below HR16_2.out HB.out) | (with_reducible refine zT ?_ _) | (with_reducible refine zU ?_ _) | (with_reducible refine zV ?_))); (case side4 => exact HC16_2.out); rintro e w13 ⟨rfl, hb⟩; refine ⟨_, rfl, ?_⟩; have n0_ := zA (zAD (by repeat (first | (with_reducible first | exact HB.out | apply zH | apply zF | apply zG) | exact HB.out)) hb); clear HB; have HB := n0_; clear n0_; (try clear hb); refine hK.out _ _ ⟨((HB.out.cell (zB w _ hw15_0)).trans hw15_0), ((HB.out.cell (zB w _ hw15_1)).trans hw15_1), ((HB.out.cell (zB w _ hw15_2)).trans hw15_2), ((HB.out.cell (zB w _ hw16_0)).trans hw16_0), ((HB.out.cell (zB w _ hw16_1)).trans hw16_1), ((HB.out.cell (zB w _ hw16_2)).trans hw16_2)⟩ (fun hHeld => ?_); clear hK K; refine norm_ (a' := ?_) ?_ ?_; rotate_left
         ·show Act.put _ (some 24) _ = _
          simp only [Act.put, zC, zD, zE, i64_w, i32_w]; rfl
         refine pure_ (i := 9) (N := some 25) (v := ?_) (a' := ?_) #[true, true, true, true, true, true, true, true, true, true] rfl rfl (any_of HT_.out (by kernel_rfl)) (fun _ _ _ h => h) (Or.inl ⟨by rfl, ?_⟩) ?_ ?_; rotate_left
         ·intro w'
          go_simp
          with_reducible rfl
         rotate_left
         ·simp only [Act.put, zC, zD, zE, i64_w, i32_w]
          rfl
         refine done_ (done_of HT_.out (by kernel_rfl)) ?_
         try go_wp2
         go_ret; exact ⟨by first | rfl | (simp <;> rfl) | (simp [*] <;> rfl), by repeat (first | (with_reducible first | exact HB.out | apply zH | apply zF | apply zG) | exact HB.out)⟩
       ·rw [if_neg c7] at H
        exact absurd H (by simp)
      ·rw [if_neg c6] at H
       exact absurd H (by simp)
     ·rw [if_neg c5] at H
      exact absurd H (by simp)
    ·rw [if_neg c4] at H
     have c4b0 : decide (x13_1 < (l0.length : Int)) = false := decide_eq_false c4; clear c4; obtain rfl := Option.some.inj H; go_wp2; go_ret; exact ⟨by first | rfl | (simp <;> rfl) | (simp [*] <;> rfl), by repeat (first | (with_reducible first | exact HB.out | apply zH | apply zF | apply zG) | exact HB.out)⟩
 ·rw [if_neg c3] at H
  have c3b0 : ((l0.length : Int) == (l1.length : Int)) = false := beq_eq_false_iff_ne.mpr c3; have c3b1 : ((l0.length : Int) != (l1.length : Int)) = true := bne_iff_ne.mpr c3; have c3b2 : (l0.length == l1.length) = false := by first | simpa using c3 | (simp at c3 ⊢; omega)
  obtain rfl := Option.some.inj H; go_enter Try.func45, Try.ntmps45; go_wp2; go_ret; exact ⟨by first | rfl | (simp <;> rfl) | (simp [*] <;> rfl), by repeat (first | (with_reducible first | exact HB.out | apply zH | apply zF | apply zG) | exact HB.out)⟩
mutual
def laws_FnAudit.j0 : Nat → List Int → ByteArray → List (S89) → Int → Bool → ByteArray → Bool → Bool → Option (Bool)
 | 0, _, _, _, _, _, _, _, _ => none
 | k + 1, x1, x5, x6, x7, x8, x11, x12, x64 => if x64 = true then (some false) else (if x8 = true then (if (x6.length : Int) > 0 then (if x12 = true then (laws_FnAudit.j1 k x1 ((x7 == (-1)) != (x11.toList == x5.toList))) else (laws_FnAudit.j1 k x1 ((x7 == (-1)) != false))) else (laws_FnAudit.j1 k x1 false)) else (laws_FnAudit.j1 k x1 false))
def laws_FnAudit.j1 : Nat → List Int → Bool → Option (Bool)
 | 0, _, _ => none
 | k + 1, x1, x81 => if x81 = true then (some false) else ((spec_DrawClashIn.f k x1).bind fun bt10 => ((impl_ClashIn.f k bt10.1 bt10.2).bind fun bt18 => ((spec_ClashIn.f k bt10.1 bt10.2).bind fun bt19 => (if (bt18.2.2 != bt19.2.2) = true then (laws_FnAudit.j2 k bt10.1 bt10.2 bt18.1 bt18.2.1 bt18.2.2 true) else (if bt18.1.toList = bt19.1.toList then (laws_FnAudit.j2 k bt10.1 bt10.2 bt18.1 bt18.2.1 bt18.2.2 (bt18.2.1.toList != bt19.2.1.toList)) else (laws_FnAudit.j2 k bt10.1 bt10.2 bt18.1 bt18.2.1 bt18.2.2 true))))))
def laws_FnAudit.j2 : Nat → List (S89) → List (S89) → ByteArray → ByteArray → Bool → Bool → Option (Bool)
 | 0, _, _, _, _, _, _ => none
 | k + 1, x13, x14, x15, x16, x17, x20 => if x20 = true then (some false) else ((impl_LastDigest.f k x13).bind fun bt21 => ((impl_LastDigest.f k x14).bind fun bt22 => (if bt21.2 = true then (if bt22.2 = true then (if (x13.length : Int) = (x14.length : Int) then (if bt21.1.toList = bt22.1.toList then ((laws_sameChain.f k x13 x14).bind fun t23 => (laws_FnAudit.j3 k x15 x16 x17 (x17 != (!t23)))) else (laws_FnAudit.j3 k x15 x16 x17 (x17 != false))) else (laws_FnAudit.j3 k x15 x16 x17 (x17 != false))) else (laws_FnAudit.j3 k x15 x16 x17 false)) else (laws_FnAudit.j3 k x15 x16 x17 false))))
def laws_FnAudit.j3 : Nat → ByteArray → ByteArray → Bool → Bool → Option (Bool)
 | 0, _, _, _, _ => none
 | k + 1, x15, x16, x17, x24 => if x24 = true then (some false) else (if x17 = true then ((impl_DigestOf.f k 104 x15).bind fun bt25 => ((impl_DigestOf.f k 104 x16).bind fun bt26 => (if bt25.2 = true then (if bt26.2 = true then (if bt25.1.toList = bt26.1.toList then (some (x15.toList != x16.toList)) else (some false)) else (some false)) else (some false)))) else (some true))
end
def laws_FnAudit.f (k : Nat) (l0 : List Int) (l1 : List Int) : Option (Bool) := if (wrap64 ((l0.length : Int) + (l1.length : Int))) > 1048576 then (some true) else ((spec_DrawAuditChain.f k l0).bind fun bt10 => ((impl_AuditChain.f k bt10.1 bt10.2).bind fun bt11 => ((spec_AuditChain.f k bt10.1 bt10.2).bind fun bt12 => ((impl_LastDigest.f k bt10.2).bind fun bt13 => (if (bt11.2 != bt12.2) = true then (laws_FnAudit.j0 k l1 bt10.1 bt10.2 bt11.1 bt11.2 bt13.1 bt13.2 true) else (laws_FnAudit.j0 k l1 bt10.1 bt10.2 bt11.1 bt11.2 bt13.1 bt13.2 (bt11.1 != bt12.1)))))))
theorem laws_FnAudit.calls (k : Nat) (A0 : Option Addr) (c0 : Nat) (l0 : List Int) (A1 : Option Addr) (c1 : Nat) (l1 : List Int) (r : Bool) (w : World) (hr0 : Kd.C (Kd.int .u8) w A0 l0.length l0) (hc0 : l0.length ≤ c0) (hr1 : Kd.C (Kd.int .u8) w A1 l1.length l1) (hc1 : l1.length ≤ c1) (h : laws_FnAudit.f k l0 l1 = some r) :
  Calls Try.prog 5 #[.slice A0 l0.length c0, .slice A1 l1.length c1] w fun e w' => e = .returned (.bool r) ∧ Below w.heap.size w w' := by
 have HR0 := zA hr0; have HC0 := zA hc0; clear hr0 hc0; have HR1 := zA hr1; have HC1 := zA hc1; clear hr1 hc1; have HB := zA (Below.refl w.heap.size w); have H : (if (wrap64 ((l0.length : Int) + (l1.length : Int))) > 1048576 then (some true) else ((spec_DrawAuditChain.f k l0).bind fun bt59 => ((impl_AuditChain.f k bt59.1 bt59.2).bind fun bt61 => ((spec_AuditChain.f k bt59.1 bt59.2).bind fun bt62 => ((impl_LastDigest.f k bt59.2).bind fun bt63 => (if (bt61.2 != bt62.2) = true then (laws_FnAudit.j0 k l1 bt59.1 bt59.2 bt61.1 bt61.2 bt63.1 bt63.2 true) else (laws_FnAudit.j0 k l1 bt59.1 bt59.2 bt61.1 bt61.2 bt63.1 bt63.2 (bt61.1 != bt62.1)))))))) = some r := h; clear h
 by_cases c3 : (wrap64 ((l0.length : Int) + (l1.length : Int))) > 1048576
 ·rw [if_pos c3] at H
  have c3b0 : decide (1048576 < (wrap64 ((l0.length : Int) + (l1.length : Int)))) = true := zX c3; clear c3
  as_aux_lemma =>
   obtain rfl := Option.some.inj H; go_enter Try.func5, Try.ntmps5; go_wp2; go_ret; exact ⟨by first | rfl | (simp <;> rfl) | (simp [*] <;> rfl), by repeat (first | (with_reducible first | exact HB.out | apply zH | apply zF | apply zG) | exact HB.out)⟩
 ·rw [if_neg c3] at H
  have c3b0 : decide (1048576 < (wrap64 ((l0.length : Int) + (l1.length : Int)))) = false := decide_eq_false c3; clear c3; replace H := zAF H; obtain ⟨⟨t59, t65⟩, A40, H⟩ := H; replace H : ((impl_AuditChain.f k t59 t65).bind fun bt61 => ((spec_AuditChain.f k t59 t65).bind fun bt62 => ((impl_LastDigest.f k t65).bind fun bt63 => (if (bt61.2 != bt62.2) = true then (laws_FnAudit.j0 k l1 t59 t65 bt61.1 bt61.2 bt63.1 bt63.2 true) else (laws_FnAudit.j0 k l1 t59 t65 bt61.1 bt61.2 bt63.1 bt63.2 (bt61.1 != bt62.1)))))) = some r := H; have A4 := zA A40; clear A40; replace H := zAF H; obtain ⟨⟨t61, t66⟩, A50, H⟩ := H; replace H : ((spec_AuditChain.f k t59 t65).bind fun bt62 => ((impl_LastDigest.f k t65).bind fun bt63 => (if (t66 != bt62.2) = true then (laws_FnAudit.j0 k l1 t59 t65 t61 t66 bt63.1 bt63.2 true) else (laws_FnAudit.j0 k l1 t59 t65 t61 t66 bt63.1 bt63.2 (t61 != bt62.1))))) = some r := H; have A5 := zA A50; clear A50; replace H := zAF H; obtain ⟨⟨t62, t67⟩, A60, H⟩ := H; replace H : ((impl_LastDigest.f k t65).bind fun bt63 => (if (t66 != t67) = true then (laws_FnAudit.j0 k l1 t59 t65 t61 t66 bt63.1 bt63.2 true) else (laws_FnAudit.j0 k l1 t59 t65 t61 t66 bt63.1 bt63.2 (t61 != t62)))) = some r := H; have A6 := zA A60; clear A60; replace H := zAF H; obtain ⟨⟨t63, t68⟩, A70, H⟩ := H; replace H : (if (t66 != t67) = true then (laws_FnAudit.j0 k l1 t59 t65 t61 t66 t63 t68 true) else (laws_FnAudit.j0 k l1 t59 t65 t61 t66 t63 t68 (t61 != t62))) = some r := H; have A7 := zA A70; clear A70; have HC8 := zA H; clear H; go_enter Try.func5, Try.ntmps5; go_upto_region 7 with (first | ((with_reducible refine yB (f := 38) rfl ?_); refine goesL_ (some 37) rfl rfl Try.func38 (by kernel_rfl) rfl #[.slice A0 l0.length c0] rfl (by (try simp only [zAA, zAB, zAC]); first | done | rfl | (simp only [zZ, zY]; rfl)) ?_; (with_reducible refine (spec_DrawAuditChain.calls k _ _ l0 t59 t65 _ ?side1 ?side2 A4.out).mono ?_); (case side1 => repeat (first | exact HR0.out | (with_reducible refine zT ?_ _) | (with_reducible refine zU ?_ _) | (with_reducible refine zV ?_))); (case side2 => exact HC0.out); rintro e w9 ⟨v69, rfl, ho0, hb⟩; refine ⟨_, rfl, ?_⟩; have n0_ := zA (Kd.N_lower (Kd.N_mono (ok' := fun k_ => True) ho0 (fun k_ hk_ => trivial)) (zAE (by repeat (first | (with_reducible first | exact HB.out | apply zH | apply zF | apply zG) | exact HB.out)))); have n1_ := zA (zAD (by repeat (first | (with_reducible first | exact HB.out | apply zH | apply zF | apply zG) | exact HB.out)) hb); clear HB; have HO71 := n0_; have HB := n1_; clear n0_ n1_; (try clear hb); (try clear ho0); obtain ⟨Ao10, co10, eo10⟩ := Kd.N_slice HO71.out; subst eo10) | ((with_reducible refine yB (f := 39) rfl ?_); refine goesL_ (some 43) rfl rfl Try.func39 (by kernel_rfl) rfl #[.string t59, .slice Ao10 t65.length co10] rfl (by (try simp only [zAA, zAB, zAC]); first | done | rfl | (simp only [zZ, zY]; rfl)) ?_; (with_reducible refine (impl_AuditChain.calls k t59 _ _ t65 t61 t66 _ ?side1 ?side2 A5.out).mono ?_); (case side1 => repeat (first | exact (Kd.N_reads' HO71.out).2.2 | (with_reducible refine zT ?_ _) | (with_reducible refine zU ?_ _) | (with_reducible refine zV ?_))); (case side2 => exact (Kd.N_reads' HO71.out).2.1); rintro e w11 ⟨rfl, hb⟩; refine ⟨_, rfl, ?_⟩; have n0_ := zA (Kd.N_below (by (with_reducible repeat (first | apply Kd.N_alloc | apply Kd.N_drewN | apply Kd.N_drew)); exact HO71.out) hb); have n1_ := zA (zAD (by repeat (first | (with_reducible first | exact HB.out | apply zH | apply zF | apply zG) | exact HB.out)) hb); clear HO71; clear HB; have HO71 := n0_; have HB := n1_; clear n0_ n1_; (try clear hb)) | ((with_reducible refine yB (f := 40) rfl ?_); refine goesL_ (some 49) rfl rfl Try.func40 (by kernel_rfl) rfl #[.string t59, .slice Ao10 t65.length co10] rfl (by (try simp only [zAA, zAB, zAC]); first | done | rfl | (simp only [zZ, zY]; rfl)) ?_; (with_reducible refine (spec_AuditChain.calls k t59 _ _ t65 t62 t67 _ ?side1 ?side2 A6.out).mono ?_); (case side1 => repeat (first | exact (Kd.N_reads' HO71.out).2.2 | (with_reducible refine zT ?_ _) | (with_reducible refine zU ?_ _) | (with_reducible refine zV ?_))); (case side2 => exact (Kd.N_reads' HO71.out).2.1); rintro e w12 ⟨rfl, hb⟩; refine ⟨_, rfl, ?_⟩; have n0_ := zA (Kd.N_below (by (with_reducible repeat (first | apply Kd.N_alloc | apply Kd.N_drewN | apply Kd.N_drew)); exact HO71.out) hb); have n1_ := zA (zAD (by repeat (first | (with_reducible first | exact HB.out | apply zH | apply zF | apply zG) | exact HB.out)) hb); clear HO71; clear HB; have HO71 := n0_; have HB := n1_; clear n0_ n1_; (try clear hb)) | ((with_reducible refine yB (f := 41) rfl ?_); refine goesL_ (some 54) rfl rfl Try.func41 (by kernel_rfl) rfl #[.slice Ao10 t65.length co10] rfl (by (try simp only [zAA, zAB, zAC]); first | done | rfl | (simp only [zZ, zY]; rfl)) ?_; (with_reducible refine (impl_LastDigest.calls k _ _ t65 t63 t68 _ ?side1 ?side2 A7.out).mono ?_); (case side1 => repeat (first | exact (Kd.N_reads' HO71.out).2.2 | (with_reducible refine zT ?_ _) | (with_reducible refine zU ?_ _) | (with_reducible refine zV ?_))); (case side2 => exact (Kd.N_reads' HO71.out).2.1); rintro e w13 ⟨rfl, hb⟩; refine ⟨_, rfl, ?_⟩; have n0_ := zA (Kd.N_below (by (with_reducible repeat (first | apply Kd.N_alloc | apply Kd.N_drewN | apply Kd.N_drew)); exact HO71.out) hb); have n1_ := zA (zAD (by repeat (first | (with_reducible first | exact HB.out | apply zH | apply zF | apply zG) | exact HB.out)) hb); clear HO71; clear HB; have HO71 := n0_; have HB := n1_; clear n0_ n1_; (try clear hb)))
  (try simp only [Act.put, zC, zD, zE]); go_cut [64] (fun v64 wc => ∃ (kq : Nat) (x64_7 : Bool), v64 = .bool x64_7 ∧ Aside0 (laws_FnAudit.j0 kq l1 t59 t65 t61 t66 t63 t68 x64_7 = some r) ∧ Aside0 (kq ≤ k) ∧ Aside0 (Kd.N k89 89 wc w.heap.size (fun _ => True) (.slice Ao10 t65.length co10) t65) ∧ Aside0 (Below w.heap.size w wc))
  case first =>
   have H := HC8.out; clear HC8
   by_cases c14 : (t66 != t67) = true
   ·rw [if_pos c14] at H
    have c14b0 : (t66 != t67) = true := c14; (try (have c14b1 : decide (t66 = t67) = false := by simpa using c14)); (try (have c14b2 : (t66 == t67) = false := by simpa using c14)); (try (have c14b3 : ¬ (t66 = t67) := by simpa using c14)); clear c14; (first | rw [c14b0] | (simp only [i64_w, i32_w]; rw [c14b0]) | skip)
    as_aux_lemma =>
     have H' := zA H; clear H; go_wp2; go_meet
     case rel => exact ⟨_, (true), (by first | rfl | (simp; done) | (simp [*]; done) | (simp [bne]; done)), H', ⟨by first | omega | exact Nat.le_refl _⟩, ⟨by (with_reducible repeat (first | apply Kd.N_alloc | apply Kd.N_drewN | apply Kd.N_drew)); exact HO71.out⟩, ⟨by repeat (first | (with_reducible first | exact HB.out | apply zH | apply zF | apply zG) | exact HB.out)⟩⟩
   ·rw [if_neg c14] at H
    have c14b0 : (t66 != t67) = false := by simpa using c14
    (try (have c14b1 : decide (t66 = t67) = true := by simpa using c14)); (try (have c14b2 : (t66 == t67) = true := by simpa using c14)); clear c14; (first | rw [c14b0] | (simp only [i64_w, i32_w]; rw [c14b0]) | skip)
    as_aux_lemma =>
     have H' := zA H; clear H; go_wp2; go_meet
     case rel => exact ⟨_, ((t61 != t62)), (by first | rfl | (simp; done) | (simp [*]; done) | (simp [bne]; done)), H', ⟨by first | omega | exact Nat.le_refl _⟩, ⟨by (with_reducible repeat (first | apply Kd.N_alloc | apply Kd.N_drewN | apply Kd.N_drew)); exact HO71.out⟩, ⟨by repeat (first | (with_reducible first | exact HB.out | apply zH | apply zF | apply zG) | exact HB.out)⟩⟩
  case rest =>
   clear HC8
   try clear c1
   try clear p2
   try clear c3
   try clear c3b0
   try clear c4
   try clear c5
   try clear p6
   try clear c14
   try clear c14b0
   try clear c14b1
   try clear c14b2
   obtain ⟨kq, x64_7, rfl, HA, HJ7, HO_6, HB⟩ := hcut
   cases kq with
   | zero => exact absurd HA.out (by simp [laws_FnAudit.j0])
   | succ kj7 =>
    have H := HA.out; clear HA; simp only [laws_FnAudit.j0] at H
    by_cases c15 : x64_7 = true
    ·subst c15
     have H1 : (some false) = some r := by rw [if_pos rfl] at H; exact H
     clear H; have H := H1; clear H1
     as_aux_lemma =>
      obtain rfl := Option.some.inj H; go_wp2; go_ret; exact ⟨by first | rfl | (simp <;> rfl) | (simp [*] <;> rfl), by repeat (first | (with_reducible first | exact HB.out | apply zH | apply zF | apply zG) | exact HB.out)⟩
    ·replace c15 := Bool.eq_false_iff.mpr c15
     subst c15; have H1 : (if t66 = true then (if (t65.length : Int) > 0 then (if t68 = true then (laws_FnAudit.j1 kj7 l1 ((t61 == (-1)) != (t63.toList == t59.toList))) else (laws_FnAudit.j1 kj7 l1 ((t61 == (-1)) != false))) else (laws_FnAudit.j1 kj7 l1 false)) else (laws_FnAudit.j1 kj7 l1 false)) = some r := by rw [if_neg (show ¬ (false = true) by decide)] at H; exact H
     clear H; have H := H1; clear H1; have HC16 := zA H; clear H; go_upto_region 9 with (fail)
     go_cut [81] (fun v81 wc => ∃ (kq : Nat) (x81_15 : Bool), v81 = .bool x81_15 ∧ Aside0 (laws_FnAudit.j1 kq l1 x81_15 = some r) ∧ Aside0 (kq ≤ kj7) ∧ Aside0 (Below w.heap.size w wc))
     case first =>
      have H := HC16.out; clear HC16
      by_cases c17 : t66 = true
      ·subst c17
       have H1 : (if (t65.length : Int) > 0 then (if t68 = true then (laws_FnAudit.j1 kj7 l1 ((t61 == (-1)) != (t63.toList == t59.toList))) else (laws_FnAudit.j1 kj7 l1 ((t61 == (-1)) != false))) else (laws_FnAudit.j1 kj7 l1 false)) = some r := by rw [if_pos rfl] at H; exact H
       clear H; have H := H1; clear H1
       by_cases c18 : (t65.length : Int) > 0
       ·rw [if_pos c18] at H
        have c18b0 : decide (0 < (t65.length : Int)) = true := zX c18; have c18b1 : decide (0 < t65.length) = true := zX (by omega); clear c18; (first | rw [c18b0] | (simp only [i64_w, i32_w]; rw [c18b0]) | skip)
        by_cases c19 : t68 = true
        ·subst c19
         have H1 : (laws_FnAudit.j1 kj7 l1 ((t61 == (-1)) != (t63.toList == t59.toList))) = some r := by rw [if_pos rfl] at H; exact H
         clear H; have H := H1; clear H1
         as_aux_lemma =>
          have H' := zA H; clear H; go_wp2; go_meet
          case rel => exact ⟨_, (((t61 == (-1)) != (t63.toList == t59.toList))), (by first | rfl | (simp; done) | (simp [*]; done) | (simp [bne]; done)), H', ⟨by have := HJ7.out; first | omega | exact Nat.le_refl _⟩, ⟨by repeat (first | (with_reducible first | exact HB.out | apply zH | apply zF | apply zG) | exact HB.out)⟩⟩
        ·replace c19 := Bool.eq_false_iff.mpr c19
         subst c19; have H1 : (laws_FnAudit.j1 kj7 l1 ((t61 == (-1)) != false)) = some r := by rw [if_neg (show ¬ (false = true) by decide)] at H; exact H
         clear H; have H := H1; clear H1
         as_aux_lemma =>
          have H' := zA H; clear H; go_wp2; go_meet
          case rel => exact ⟨_, (((t61 == (-1)) != false)), (by first | rfl | (simp; done) | (simp [*]; done) | (simp [bne]; done)), H', ⟨by have := HJ7.out; first | omega | exact Nat.le_refl _⟩, ⟨by repeat (first | (with_reducible first | exact HB.out | apply zH | apply zF | apply zG) | exact HB.out)⟩⟩
       ·rw [if_neg c18] at H
        have c18b0 : decide (0 < (t65.length : Int)) = false := decide_eq_false c18; have c18b1 : decide (0 < t65.length) = false := decide_eq_false (by omega); clear c18; (first | rw [c18b0] | (simp only [i64_w, i32_w]; rw [c18b0]) | skip)
        as_aux_lemma =>
         have H' := zA H; clear H; go_wp2; go_meet
         case rel => exact ⟨_, (false), (by first | rfl | (simp; done) | (simp [*]; done) | (simp [bne]; done)), H', ⟨by have := HJ7.out; first | omega | exact Nat.le_refl _⟩, ⟨by repeat (first | (with_reducible first | exact HB.out | apply zH | apply zF | apply zG) | exact HB.out)⟩⟩
      ·replace c17 := Bool.eq_false_iff.mpr c17
       subst c17; have H1 : (laws_FnAudit.j1 kj7 l1 false) = some r := by rw [if_neg (show ¬ (false = true) by decide)] at H; exact H
       clear H; have H := H1; clear H1
       as_aux_lemma =>
        have H' := zA H; clear H; go_wp2; go_meet
        case rel => exact ⟨_, (false), (by first | rfl | (simp; done) | (simp [*]; done) | (simp [bne]; done)), H', ⟨by have := HJ7.out; first | omega | exact Nat.le_refl _⟩, ⟨by repeat (first | (with_reducible first | exact HB.out | apply zH | apply zF | apply zG) | exact HB.out)⟩⟩
     case rest =>
      clear HC16
      try clear c1
      try clear p2
      try clear c3
      try clear c3b0
      try clear c4
      try clear c5
      try clear p6
      try clear c14
      try clear c14b0
      try clear c14b1
      try clear c14b2
      try clear c15
      try clear c17
      try clear c18
      try clear c18b0
      try clear c18b1
      try clear c19
      try clear p2
      try clear p6
      obtain ⟨kq, x81_15, rfl, HA, HJ15, HB⟩ := hcut
      cases kq with
      | zero => exact absurd HA.out (by simp [laws_FnAudit.j1])
      | succ kj15 =>
       have H := HA.out; clear HA; simp only [laws_FnAudit.j1] at H
       by_cases c20 : x81_15 = true
       ·subst c20
        have H1 : (some false) = some r := by rw [if_pos rfl] at H; exact H
        clear H; have H := H1; clear H1
        as_aux_lemma =>
         obtain rfl := Option.some.inj H; go_wp2; go_ret; exact ⟨by first | rfl | (simp <;> rfl) | (simp [*] <;> rfl), by repeat (first | (with_reducible first | exact HB.out | apply zH | apply zF | apply zG) | exact HB.out)⟩
       ·replace c20 := Bool.eq_false_iff.mpr c20
        subst c20; have H1 : ((spec_DrawClashIn.f kj15 l1).bind fun bt72 => ((impl_ClashIn.f kj15 bt72.1 bt72.2).bind fun bt73 => ((spec_ClashIn.f kj15 bt72.1 bt72.2).bind fun bt74 => (if (bt73.2.2 != bt74.2.2) = true then (laws_FnAudit.j2 kj15 bt72.1 bt72.2 bt73.1 bt73.2.1 bt73.2.2 true) else (if bt73.1.toList = bt74.1.toList then (laws_FnAudit.j2 kj15 bt72.1 bt72.2 bt73.1 bt73.2.1 bt73.2.2 (bt73.2.1.toList != bt74.2.1.toList)) else (laws_FnAudit.j2 kj15 bt72.1 bt72.2 bt73.1 bt73.2.1 bt73.2.2 true)))))) = some r := by rw [if_neg (show ¬ (false = true) by decide)] at H; exact H
        clear H; have H := H1; clear H1; replace H := zAF H; obtain ⟨⟨t72, t75⟩, A76, H⟩ := H; replace H : ((impl_ClashIn.f kj15 t72 t75).bind fun bt73 => ((spec_ClashIn.f kj15 t72 t75).bind fun bt74 => (if (bt73.2.2 != bt74.2.2) = true then (laws_FnAudit.j2 kj15 t72 t75 bt73.1 bt73.2.1 bt73.2.2 true) else (if bt73.1.toList = bt74.1.toList then (laws_FnAudit.j2 kj15 t72 t75 bt73.1 bt73.2.1 bt73.2.2 (bt73.2.1.toList != bt74.2.1.toList)) else (laws_FnAudit.j2 kj15 t72 t75 bt73.1 bt73.2.1 bt73.2.2 true))))) = some r := H; have A21 := zA A76; clear A76; replace H := zAF H; obtain ⟨⟨t73, t77, t78⟩, A79, H⟩ := H; replace H : ((spec_ClashIn.f kj15 t72 t75).bind fun bt74 => (if (t78 != bt74.2.2) = true then (laws_FnAudit.j2 kj15 t72 t75 t73 t77 t78 true) else (if t73.toList = bt74.1.toList then (laws_FnAudit.j2 kj15 t72 t75 t73 t77 t78 (t77.toList != bt74.2.1.toList)) else (laws_FnAudit.j2 kj15 t72 t75 t73 t77 t78 true)))) = some r := H; have A22 := zA A79; clear A79; replace H := zAF H; obtain ⟨⟨t74, t80, t82⟩, A83, H⟩ := H; replace H : (if (t78 != t82) = true then (laws_FnAudit.j2 kj15 t72 t75 t73 t77 t78 true) else (if t73.toList = t74.toList then (laws_FnAudit.j2 kj15 t72 t75 t73 t77 t78 (t77.toList != t80.toList)) else (laws_FnAudit.j2 kj15 t72 t75 t73 t77 t78 true))) = some r := H; have A23 := zA A83; clear A83; have HC24 := zA H; clear H; go_upto_region 14 with (first | ((with_reducible refine yB (f := 42) rfl ?_); refine goesL_ (some 84) rfl rfl Try.func42 (by kernel_rfl) rfl #[.slice A1 l1.length c1] rfl (by (try simp only [zAA, zAB, zAC]); first | done | rfl | (simp only [zZ, zY]; rfl)) ?_; (with_reducible refine (spec_DrawClashIn.calls kj15 _ _ l1 t72 t75 _ ?side1 ?side2 A21.out).mono ?_); (case side1 => repeat (first | exact (Kd.C_below HR1.out HB.out) | (with_reducible refine zT ?_ _) | (with_reducible refine zU ?_ _) | (with_reducible refine zV ?_))); (case side2 => exact HC1.out); rintro e w25 ⟨v84, v85, rfl, ho0, ho1, hb⟩; refine ⟨_, rfl, ?_⟩; have n0_ := zA (Kd.V_lower (Kd.V_mono (ok' := fun k_ => True) ho0 (fun k_ hk_ => trivial)) (zAE (by repeat (first | (with_reducible first | exact HB.out | apply zH | apply zF | apply zG) | exact HB.out)))); have n1_ := zA (Kd.V_lower (Kd.V_mono (ok' := fun k_ => True) ho1 (fun k_ hk_ => trivial)) (zAE (by repeat (first | (with_reducible first | exact HB.out | apply zH | apply zF | apply zG) | exact HB.out)))); have n2_ := zA (zAD (by repeat (first | (with_reducible first | exact HB.out | apply zH | apply zF | apply zG) | exact HB.out)) hb); clear HB; have HO86 := n0_; have HO87 := n1_; have HB := n2_; clear n0_ n1_ n2_; (try clear hb); (try clear ho0); (try clear ho1); obtain ⟨Ao26, co26, eo26⟩ := Kd.V_slice HO86.out; subst eo26; obtain ⟨Ao27, co27, eo27⟩ := Kd.V_slice HO87.out; subst eo27) | ((with_reducible refine yB (f := 43) rfl ?_); refine goesL_ (some 90) rfl rfl Try.func43 (by kernel_rfl) rfl #[.slice Ao26 t72.length co26, .slice Ao27 t75.length co27] rfl (by (try simp only [zAA, zAB, zAC]); first | done | rfl | (simp only [zZ, zY]; rfl)) ?_; (with_reducible refine (impl_ClashIn.calls kj15 _ _ t72 _ _ t75 t73 t77 t78 _ ?side1 ?side2 ?side3 ?side4 A22.out).mono ?_); (case side1 => repeat (first | exact (Kd.V_reads' HO86.out).2.2 | (with_reducible refine zT ?_ _) | (with_reducible refine zU ?_ _) | (with_reducible refine zV ?_))); (case side2 => exact (Kd.V_reads' HO86.out).2.1); (case side3 => repeat (first | exact (Kd.V_reads' HO87.out).2.2 | (with_reducible refine zT ?_ _) | (with_reducible refine zU ?_ _) | (with_reducible refine zV ?_))); (case side4 => exact (Kd.V_reads' HO87.out).2.1); rintro e w28 ⟨rfl, hb⟩; refine ⟨_, rfl, ?_⟩; have n0_ := zA (Kd.V_below (by (with_reducible repeat (first | apply Kd.V_alloc | apply Kd.V_drewN | apply Kd.V_drew)); exact HO86.out) hb); have n1_ := zA (Kd.V_below (by (with_reducible repeat (first | apply Kd.V_alloc | apply Kd.V_drewN | apply Kd.V_drew)); exact HO87.out) hb); have n2_ := zA (zAD (by repeat (first | (with_reducible first | exact HB.out | apply zH | apply zF | apply zG) | exact HB.out)) hb); clear HO86; clear HO87; clear HB; have HO86 := n0_; have HO87 := n1_; have HB := n2_; clear n0_ n1_ n2_; (try clear hb)) | ((with_reducible refine yB (f := 44) rfl ?_); refine goesL_ (some 97) rfl rfl Try.func44 (by kernel_rfl) rfl #[.slice Ao26 t72.length co26, .slice Ao27 t75.length co27] rfl (by (try simp only [zAA, zAB, zAC]); first | done | rfl | (simp only [zZ, zY]; rfl)) ?_; (with_reducible refine (spec_ClashIn.calls kj15 _ _ t72 _ _ t75 t74 t80 t82 _ ?side1 ?side2 ?side3 ?side4 A23.out).mono ?_); (case side1 => repeat (first | exact (Kd.V_reads' HO86.out).2.2 | (with_reducible refine zT ?_ _) | (with_reducible refine zU ?_ _) | (with_reducible refine zV ?_))); (case side2 => exact (Kd.V_reads' HO86.out).2.1); (case side3 => repeat (first | exact (Kd.V_reads' HO87.out).2.2 | (with_reducible refine zT ?_ _) | (with_reducible refine zU ?_ _) | (with_reducible refine zV ?_))); (case side4 => exact (Kd.V_reads' HO87.out).2.1); rintro e w29 ⟨rfl, hb⟩; refine ⟨_, rfl, ?_⟩; have n0_ := zA (Kd.V_below (by (with_reducible repeat (first | apply Kd.V_alloc | apply Kd.V_drewN | apply Kd.V_drew)); exact HO86.out) hb); have n1_ := zA (Kd.V_below (by (with_reducible repeat (first | apply Kd.V_alloc | apply Kd.V_drewN | apply Kd.V_drew)); exact HO87.out) hb); have n2_ := zA (zAD (by repeat (first | (with_reducible first | exact HB.out | apply zH | apply zF | apply zG) | exact HB.out)) hb); clear HO86; clear HO87; clear HB; have HO86 := n0_; have HO87 := n1_; have HB := n2_; clear n0_ n1_ n2_; (try clear hb)))
        (try simp only [Act.put, zC, zD, zE]); go_cut [113] (fun v88 wc => ∃ (kq : Nat) (x88_23 : Bool), v88 = .bool x88_23 ∧ Aside0 (laws_FnAudit.j2 kq t72 t75 t73 t77 t78 x88_23 = some r) ∧ Aside0 (kq ≤ kj15) ∧ Aside0 (Kd.V k89 89 wc w.heap.size (fun _ => True) (.slice Ao26 t72.length co26) t72) ∧ Aside0 (Kd.V k89 89 wc w.heap.size (fun _ => True) (.slice Ao27 t75.length co27) t75) ∧ Aside0 (Below w.heap.size w wc))
        case first =>
         have H := HC24.out; clear HC24
         by_cases c30 : (t78 != t82) = true
         ·rw [if_pos c30] at H
          have c30b0 : (t78 != t82) = true := c30; (try (have c30b1 : decide (t78 = t82) = false := by simpa using c30)); (try (have c30b2 : (t78 == t82) = false := by simpa using c30)); (try (have c30b3 : ¬ (t78 = t82) := by simpa using c30)); clear c30; (first | rw [c30b0] | (simp only [i64_w, i32_w]; rw [c30b0]) | skip)
          as_aux_lemma =>
           have H' := zA H; clear H; go_wp2; go_meet
           case rel => exact ⟨_, (true), (by first | rfl | (simp; done) | (simp [*]; done) | (simp [bne]; done)), H', ⟨by have := HJ7.out; have := HJ15.out; first | omega | exact Nat.le_refl _⟩, ⟨by (with_reducible repeat (first | apply Kd.V_alloc | apply Kd.V_drewN | apply Kd.V_drew)); exact HO86.out⟩, ⟨by (with_reducible repeat (first | apply Kd.V_alloc | apply Kd.V_drewN | apply Kd.V_drew)); exact HO87.out⟩, ⟨by repeat (first | (with_reducible first | exact HB.out | apply zH | apply zF | apply zG) | exact HB.out)⟩⟩
         ·rw [if_neg c30] at H
          have c30b0 : (t78 != t82) = false := by simpa using c30
          (try (have c30b1 : decide (t78 = t82) = true := by simpa using c30)); (try (have c30b2 : (t78 == t82) = true := by simpa using c30)); clear c30; (first | rw [c30b0] | (simp only [i64_w, i32_w]; rw [c30b0]) | skip)
          by_cases c31 : t73.toList = t74.toList
          ·rw [if_pos c31] at H
           have c31b0 : (t73.toList == t74.toList) = true := beq_iff_eq.mpr c31; have c31b1 : (t73.toList != t74.toList) = false := bne_eq_false_iff_eq.mpr c31; clear c31
           as_aux_lemma =>
            have H' := zA H; clear H; go_wp2; go_meet
            case rel => exact ⟨_, ((t77.toList != t80.toList)), (by first | rfl | (simp; done) | (simp [*]; done) | (simp [bne]; done)), H', ⟨by have := HJ7.out; have := HJ15.out; first | omega | exact Nat.le_refl _⟩, ⟨by (with_reducible repeat (first | apply Kd.V_alloc | apply Kd.V_drewN | apply Kd.V_drew)); exact HO86.out⟩, ⟨by (with_reducible repeat (first | apply Kd.V_alloc | apply Kd.V_drewN | apply Kd.V_drew)); exact HO87.out⟩, ⟨by repeat (first | (with_reducible first | exact HB.out | apply zH | apply zF | apply zG) | exact HB.out)⟩⟩
          ·rw [if_neg c31] at H
           have c31b0 : (t73.toList == t74.toList) = false := beq_eq_false_iff_ne.mpr c31; have c31b1 : (t73.toList != t74.toList) = true := bne_iff_ne.mpr c31
           as_aux_lemma =>
            have H' := zA H; clear H; go_wp2; go_meet
            case rel => exact ⟨_, (true), (by first | rfl | (simp; done) | (simp [*]; done) | (simp [bne]; done)), H', ⟨by have := HJ7.out; have := HJ15.out; first | omega | exact Nat.le_refl _⟩, ⟨by (with_reducible repeat (first | apply Kd.V_alloc | apply Kd.V_drewN | apply Kd.V_drew)); exact HO86.out⟩, ⟨by (with_reducible repeat (first | apply Kd.V_alloc | apply Kd.V_drewN | apply Kd.V_drew)); exact HO87.out⟩, ⟨by repeat (first | (with_reducible first | exact HB.out | apply zH | apply zF | apply zG) | exact HB.out)⟩⟩
        case rest =>
         clear HC24
         try clear c1
         try clear c2
         try clear p2
         try clear c3
         try clear c3b0
         try clear c4
         try clear c5
         try clear p6
         try clear c14
         try clear c14b0
         try clear c14b1
         try clear c14b2
         try clear c15
         try clear c17
         try clear c18
         try clear c18b0
         try clear c18b1
         try clear c19
         try clear c20
         try clear c30
         try clear c30b0
         try clear c30b1
         try clear c30b2
         try clear c31
         try clear c31b0
         try clear c31b1
         try clear p2
         try clear p6
         obtain ⟨kq, x88_23, rfl, HA, HJ23, HO_13, HO_14, HB⟩ := hcut
         cases kq with
         | zero => exact absurd HA.out (by simp [laws_FnAudit.j2])
         | succ kj23 =>
          have H := HA.out; clear HA; simp only [laws_FnAudit.j2] at H
          by_cases c32 : x88_23 = true
          ·subst c32
           have H1 : (some false) = some r := by rw [if_pos rfl] at H; exact H
           clear H; have H := H1; clear H1
           as_aux_lemma =>
            obtain rfl := Option.some.inj H; go_wp2; go_ret; exact ⟨by first | rfl | (simp <;> rfl) | (simp [*] <;> rfl), by repeat (first | (with_reducible first | exact HB.out | apply zH | apply zF | apply zG) | exact HB.out)⟩
          ·replace c32 := Bool.eq_false_iff.mpr c32
           subst c32; have H1 : ((impl_LastDigest.f kj23 t72).bind fun bt90 => ((impl_LastDigest.f kj23 t75).bind fun bt91 => (if bt90.2 = true then (if bt91.2 = true then (if (t72.length : Int) = (t75.length : Int) then (if bt90.1.toList = bt91.1.toList then ((laws_sameChain.f kj23 t72 t75).bind fun t92 => (laws_FnAudit.j3 kj23 t73 t77 t78 (t78 != (!t92)))) else (laws_FnAudit.j3 kj23 t73 t77 t78 (t78 != false))) else (laws_FnAudit.j3 kj23 t73 t77 t78 (t78 != false))) else (laws_FnAudit.j3 kj23 t73 t77 t78 false)) else (laws_FnAudit.j3 kj23 t73 t77 t78 false)))) = some r := by rw [if_neg (show ¬ (false = true) by decide)] at H; exact H
           clear H; have H := H1; clear H1; replace H := zAF H; obtain ⟨⟨t90, t93⟩, A94, H⟩ := H; replace H : ((impl_LastDigest.f kj23 t75).bind fun bt91 => (if t93 = true then (if bt91.2 = true then (if (t72.length : Int) = (t75.length : Int) then (if t90.toList = bt91.1.toList then ((laws_sameChain.f kj23 t72 t75).bind fun t92 => (laws_FnAudit.j3 kj23 t73 t77 t78 (t78 != (!t92)))) else (laws_FnAudit.j3 kj23 t73 t77 t78 (t78 != false))) else (laws_FnAudit.j3 kj23 t73 t77 t78 (t78 != false))) else (laws_FnAudit.j3 kj23 t73 t77 t78 false)) else (laws_FnAudit.j3 kj23 t73 t77 t78 false))) = some r := H; have A33 := zA A94; clear A94; replace H := zAF H; obtain ⟨⟨t91, t95⟩, A96, H⟩ := H; replace H : (if t93 = true then (if t95 = true then (if (t72.length : Int) = (t75.length : Int) then (if t90.toList = t91.toList then ((laws_sameChain.f kj23 t72 t75).bind fun t92 => (laws_FnAudit.j3 kj23 t73 t77 t78 (t78 != (!t92)))) else (laws_FnAudit.j3 kj23 t73 t77 t78 (t78 != false))) else (laws_FnAudit.j3 kj23 t73 t77 t78 (t78 != false))) else (laws_FnAudit.j3 kj23 t73 t77 t78 false)) else (laws_FnAudit.j3 kj23 t73 t77 t78 false)) = some r := H; have A34 := zA A96; clear A96; have HC35 := zA H; clear H; go_upto_region 18 with (first | ((with_reducible refine yB (f := 41) rfl ?_); refine goesL_ (some 116) rfl rfl Try.func41 (by kernel_rfl) rfl #[.slice Ao26 t72.length co26] rfl (by (try simp only [zAA, zAB, zAC]); first | done | rfl | (simp only [zZ, zY]; rfl)) ?_; (with_reducible refine (impl_LastDigest.calls kj23 _ _ t72 t90 t93 _ ?side1 ?side2 A33.out).mono ?_); (case side1 => repeat (first | exact (Kd.V_reads' HO_13.out).2.2 | (with_reducible refine zT ?_ _) | (with_reducible refine zU ?_ _) | (with_reducible refine zV ?_))); (case side2 => exact (Kd.V_reads' HO_13.out).2.1); rintro e w36 ⟨rfl, hb⟩; refine ⟨_, rfl, ?_⟩; have n0_ := zA (Kd.V_below (by (with_reducible repeat (first | apply Kd.V_alloc | apply Kd.V_drewN | apply Kd.V_drew)); exact HO_13.out) hb); have n1_ := zA (Kd.V_below (by (with_reducible repeat (first | apply Kd.V_alloc | apply Kd.V_drewN | apply Kd.V_drew)); exact HO_14.out) hb); have n2_ := zA (zAD (by repeat (first | (with_reducible first | exact HB.out | apply zH | apply zF | apply zG) | exact HB.out)) hb); clear HO_13; clear HO_14; clear HB; have HO_13 := n0_; have HO_14 := n1_; have HB := n2_; clear n0_ n1_ n2_; (try clear hb)) | ((with_reducible refine yB (f := 41) rfl ?_); refine goesL_ (some 121) rfl rfl Try.func41 (by kernel_rfl) rfl #[.slice Ao27 t75.length co27] rfl (by (try simp only [zAA, zAB, zAC]); first | done | rfl | (simp only [zZ, zY]; rfl)) ?_; (with_reducible refine (impl_LastDigest.calls kj23 _ _ t75 t91 t95 _ ?side1 ?side2 A34.out).mono ?_); (case side1 => repeat (first | exact (Kd.V_reads' HO_14.out).2.2 | (with_reducible refine zT ?_ _) | (with_reducible refine zU ?_ _) | (with_reducible refine zV ?_))); (case side2 => exact (Kd.V_reads' HO_14.out).2.1); rintro e w37 ⟨rfl, hb⟩; refine ⟨_, rfl, ?_⟩; have n0_ := zA (Kd.V_below (by (with_reducible repeat (first | apply Kd.V_alloc | apply Kd.V_drewN | apply Kd.V_drew)); exact HO_13.out) hb); have n1_ := zA (Kd.V_below (by (with_reducible repeat (first | apply Kd.V_alloc | apply Kd.V_drewN | apply Kd.V_drew)); exact HO_14.out) hb); have n2_ := zA (zAD (by repeat (first | (with_reducible first | exact HB.out | apply zH | apply zF | apply zG) | exact HB.out)) hb); clear HO_13; clear HO_14; clear HB; have HO_13 := n0_; have HO_14 := n1_; have HB := n2_; clear n0_ n1_ n2_; (try clear hb)))
           (try simp only [Act.put, zC, zD, zE]); go_cut [147] (fun v97 wc => ∃ (kq : Nat) (x97_34 : Bool), v97 = .bool x97_34 ∧ Aside0 (laws_FnAudit.j3 kq t73 t77 t78 x97_34 = some r) ∧ Aside0 (kq ≤ kj23) ∧ Aside0 (Below w.heap.size w wc))
           case first =>
            have H := HC35.out; clear HC35
            by_cases c38 : t93 = true
            ·subst c38
             have H1 : (if t95 = true then (if (t72.length : Int) = (t75.length : Int) then (if t90.toList = t91.toList then ((laws_sameChain.f kj23 t72 t75).bind fun t92 => (laws_FnAudit.j3 kj23 t73 t77 t78 (t78 != (!t92)))) else (laws_FnAudit.j3 kj23 t73 t77 t78 (t78 != false))) else (laws_FnAudit.j3 kj23 t73 t77 t78 (t78 != false))) else (laws_FnAudit.j3 kj23 t73 t77 t78 false)) = some r := by rw [if_pos rfl] at H; exact H
             clear H; have H := H1; clear H1
             by_cases c39 : t95 = true
             ·subst c39
              have H1 : (if (t72.length : Int) = (t75.length : Int) then (if t90.toList = t91.toList then ((laws_sameChain.f kj23 t72 t75).bind fun t92 => (laws_FnAudit.j3 kj23 t73 t77 t78 (t78 != (!t92)))) else (laws_FnAudit.j3 kj23 t73 t77 t78 (t78 != false))) else (laws_FnAudit.j3 kj23 t73 t77 t78 (t78 != false))) = some r := by rw [if_pos rfl] at H; exact H
              clear H; have H := H1; clear H1
              by_cases c40 : (t72.length : Int) = (t75.length : Int)
              ·rw [if_pos c40] at H
               have c40b0 : ((t72.length : Int) == (t75.length : Int)) = true := beq_iff_eq.mpr c40; have c40b1 : ((t72.length : Int) != (t75.length : Int)) = false := bne_eq_false_iff_eq.mpr c40; have c40b2 : (t72.length == t75.length) = true := by first | simpa using c40 | (simp at c40 ⊢; omega)
               clear c40; (first | rw [c40b0] | (simp only [i64_w, i32_w]; rw [c40b0]) | skip)
               by_cases c41 : t90.toList = t91.toList
               ·rw [if_pos c41] at H
                have c41b0 : (t90.toList == t91.toList) = true := beq_iff_eq.mpr c41; have c41b1 : (t90.toList != t91.toList) = false := bne_eq_false_iff_eq.mpr c41; clear c41; replace H := zAF H; obtain ⟨t92, A98, H⟩ := H; replace H : (laws_FnAudit.j3 kj23 t73 t77 t78 (t78 != (!t92))) = some r := H; have A42 := zA A98; clear A98
                as_aux_lemma =>
                 have H' := zA H; clear H; go_wp2_with (first | (go_at_call 45; (with_reducible refine (laws_sameChain.calls kj23 _ _ t72 _ _ t75 t92 _ ?side1 ?side2 ?side3 ?side4 A42.out).mono ?_); (case side1 => repeat (first | exact (Kd.V_reads' HO_13.out).2.2 | (with_reducible refine zT ?_ _) | (with_reducible refine zU ?_ _) | (with_reducible refine zV ?_))); (case side2 => exact (Kd.V_reads' HO_13.out).2.1); (case side3 => repeat (first | exact (Kd.V_reads' HO_14.out).2.2 | (with_reducible refine zT ?_ _) | (with_reducible refine zU ?_ _) | (with_reducible refine zV ?_))); (case side4 => exact (Kd.V_reads' HO_14.out).2.1); rintro e w43 ⟨rfl, hb⟩; have n0_ := zA (Kd.V_below (by (with_reducible repeat (first | apply Kd.V_alloc | apply Kd.V_drewN | apply Kd.V_drew)); exact HO_13.out) hb); have n1_ := zA (Kd.V_below (by (with_reducible repeat (first | apply Kd.V_alloc | apply Kd.V_drewN | apply Kd.V_drew)); exact HO_14.out) hb); have n2_ := zA (zAD (by repeat (first | (with_reducible first | exact HB.out | apply zH | apply zF | apply zG) | exact HB.out)) hb); clear HO_13; clear HO_14; clear HB; have HO_13 := n0_; have HO_14 := n1_; have HB := n2_; clear n0_ n1_ n2_; (try clear hb))); go_meet
                 case rel => exact ⟨_, ((t78 != (!t92))), (by first | rfl | (simp; done) | (simp [*]; done) | (simp [bne]; done)), H', ⟨by have := HJ7.out; have := HJ15.out; have := HJ23.out; first | omega | exact Nat.le_refl _⟩, ⟨by repeat (first | (with_reducible first | exact HB.out | apply zH | apply zF | apply zG) | exact HB.out)⟩⟩
               ·rw [if_neg c41] at H
                have c41b0 : (t90.toList == t91.toList) = false := beq_eq_false_iff_ne.mpr c41; have c41b1 : (t90.toList != t91.toList) = true := bne_iff_ne.mpr c41
                as_aux_lemma =>
                 have H' := zA H; clear H; go_wp2; go_meet
                 case rel => exact ⟨_, ((t78 != false)), (by first | rfl | (simp; done) | (simp [*]; done) | (simp [bne]; done)), H', ⟨by have := HJ7.out; have := HJ15.out; have := HJ23.out; first | omega | exact Nat.le_refl _⟩, ⟨by repeat (first | (with_reducible first | exact HB.out | apply zH | apply zF | apply zG) | exact HB.out)⟩⟩
              ·rw [if_neg c40] at H
               have c40b0 : ((t72.length : Int) == (t75.length : Int)) = false := beq_eq_false_iff_ne.mpr c40; have c40b1 : ((t72.length : Int) != (t75.length : Int)) = true := bne_iff_ne.mpr c40; have c40b2 : (t72.length == t75.length) = false := by first | simpa using c40 | (simp at c40 ⊢; omega)
               (first | rw [c40b0] | (simp only [i64_w, i32_w]; rw [c40b0]) | skip)
               as_aux_lemma =>
                have H' := zA H; clear H; go_wp2; go_meet
                case rel => exact ⟨_, ((t78 != false)), (by first | rfl | (simp; done) | (simp [*]; done) | (simp [bne]; done)), H', ⟨by have := HJ7.out; have := HJ15.out; have := HJ23.out; first | omega | exact Nat.le_refl _⟩, ⟨by repeat (first | (with_reducible first | exact HB.out | apply zH | apply zF | apply zG) | exact HB.out)⟩⟩
             ·replace c39 := Bool.eq_false_iff.mpr c39
              subst c39; have H1 : (laws_FnAudit.j3 kj23 t73 t77 t78 false) = some r := by rw [if_neg (show ¬ (false = true) by decide)] at H; exact H
              clear H; have H := H1; clear H1
              as_aux_lemma =>
               have H' := zA H; clear H; go_wp2; go_meet
               case rel => exact ⟨_, (false), (by first | rfl | (simp; done) | (simp [*]; done) | (simp [bne]; done)), H', ⟨by have := HJ7.out; have := HJ15.out; have := HJ23.out; first | omega | exact Nat.le_refl _⟩, ⟨by repeat (first | (with_reducible first | exact HB.out | apply zH | apply zF | apply zG) | exact HB.out)⟩⟩
            ·replace c38 := Bool.eq_false_iff.mpr c38
             subst c38; have H1 : (laws_FnAudit.j3 kj23 t73 t77 t78 false) = some r := by rw [if_neg (show ¬ (false = true) by decide)] at H; exact H
             clear H; have H := H1; clear H1
             as_aux_lemma =>
              have H' := zA H; clear H; go_wp2; go_meet
              case rel => exact ⟨_, (false), (by first | rfl | (simp; done) | (simp [*]; done) | (simp [bne]; done)), H', ⟨by have := HJ7.out; have := HJ15.out; have := HJ23.out; first | omega | exact Nat.le_refl _⟩, ⟨by repeat (first | (with_reducible first | exact HB.out | apply zH | apply zF | apply zG) | exact HB.out)⟩⟩
           case rest =>
            clear HC35
            try clear c1
            try clear c2
            try clear p2
            try clear c3
            try clear c3b0
            try clear c4
            try clear c5
            try clear p6
            try clear c14
            try clear c14b0
            try clear c14b1
            try clear c14b2
            try clear c15
            try clear c17
            try clear c18
            try clear c18b0
            try clear c18b1
            try clear c19
            try clear c20
            try clear c30
            try clear c30b0
            try clear c30b1
            try clear c30b2
            try clear c31
            try clear c31b0
            try clear c31b1
            try clear c32
            try clear c38
            try clear c39
            try clear c40
            try clear c40b0
            try clear c40b1
            try clear c40b2
            try clear c41
            try clear c41b0
            try clear c41b1
            try clear c42
            try clear c43
            try clear p2
            try clear p6
            obtain ⟨kq, x97_34, rfl, HA, HJ34, HB⟩ := hcut
            cases kq with
            | zero => exact absurd HA.out (by simp [laws_FnAudit.j3])
            | succ kj34 =>
             have H := HA.out; clear HA; simp only [laws_FnAudit.j3] at H
             by_cases c44 : x97_34 = true
             ·subst c44
              have H1 : (some false) = some r := by rw [if_pos rfl] at H; exact H
              clear H; have H := H1; clear H1
              as_aux_lemma =>
               obtain rfl := Option.some.inj H; go_wp2; go_ret; exact ⟨by first | rfl | (simp <;> rfl) | (simp [*] <;> rfl), by repeat (first | (with_reducible first | exact HB.out | apply zH | apply zF | apply zG) | exact HB.out)⟩
             ·replace c44 := Bool.eq_false_iff.mpr c44
              subst c44; have H1 : (if t78 = true then ((impl_DigestOf.f kj34 104 t73).bind fun bt99 => ((impl_DigestOf.f kj34 104 t77).bind fun bt882 => (if bt99.2 = true then (if bt882.2 = true then (if bt99.1.toList = bt882.1.toList then (some (t73.toList != t77.toList)) else (some false)) else (some false)) else (some false)))) else (some true)) = some r := by rw [if_neg (show ¬ (false = true) by decide)] at H; exact H
              clear H; have H := H1; clear H1
              by_cases c45 : t78 = true
              ·subst c45
               have H1 : ((impl_DigestOf.f kj34 104 t73).bind fun bt99 => ((impl_DigestOf.f kj34 104 t77).bind fun bt882 => (if bt99.2 = true then (if bt882.2 = true then (if bt99.1.toList = bt882.1.toList then (some (t73.toList != t77.toList)) else (some false)) else (some false)) else (some false)))) = some r := by rw [if_pos rfl] at H; exact H
               clear H; have H := H1; clear H1; replace H := zAF H; obtain ⟨⟨t99, t881⟩, A460, H⟩ := H; replace H : ((impl_DigestOf.f kj34 104 t77).bind fun bt882 => (if t881 = true then (if bt882.2 = true then (if t99.toList = bt882.1.toList then (some (t73.toList != t77.toList)) else (some false)) else (some false)) else (some false))) = some r := H; have A46 := zA A460; clear A460; replace H := zAF H; obtain ⟨⟨t882, t883⟩, A470, H⟩ := H; replace H : (if t881 = true then (if t883 = true then (if t99.toList = t882.toList then (some (t73.toList != t77.toList)) else (some false)) else (some false)) else (some false)) = some r := H; have A47 := zA A470; clear A470
               by_cases c48 : t881 = true
               ·subst c48
                have H1 : (if t883 = true then (if t99.toList = t882.toList then (some (t73.toList != t77.toList)) else (some false)) else (some false)) = some r := by rw [if_pos rfl] at H; exact H
                clear H; have H := H1; clear H1
                by_cases c49 : t883 = true
                ·subst c49
                 have H1 : (if t99.toList = t882.toList then (some (t73.toList != t77.toList)) else (some false)) = some r := by rw [if_pos rfl] at H; exact H
                 clear H; have H := H1; clear H1
                 by_cases c50 : t99.toList = t882.toList
                 ·rw [if_pos c50] at H
                  have c50b0 : (t99.toList == t882.toList) = true := beq_iff_eq.mpr c50; have c50b1 : (t99.toList != t882.toList) = false := bne_eq_false_iff_eq.mpr c50; clear c50
                  as_aux_lemma =>
                   obtain rfl := Option.some.inj H; go_wp2_with (first | ((with_reducible refine yB (f := 46) rfl ?_); refine goesL_ (some 151) rfl rfl Try.func46 (by kernel_rfl) rfl #[.int .u8 104, .string t73] rfl (by (try simp only [zAA, zAB, zAC]); first | done | rfl) ?_; (with_reducible refine (impl_DigestOf.calls kj34 104 t73 t99 true _ A46.out).mono ?_); rintro e w51 ⟨rfl, hb⟩; refine ⟨_, rfl, ?_⟩; have n0_ := zA (zAD (by repeat (first | (with_reducible first | exact HB.out | apply zH | apply zF | apply zG) | exact HB.out)) hb); clear HB; have HB := n0_; clear n0_; (try clear hb)) | ((with_reducible refine yB (f := 46) rfl ?_); refine goesL_ (some 156) rfl rfl Try.func46 (by kernel_rfl) rfl #[.int .u8 104, .string t77] rfl (by (try simp only [zAA, zAB, zAC]); first | done | rfl) ?_; (with_reducible refine (impl_DigestOf.calls kj34 104 t77 t882 true _ A47.out).mono ?_); rintro e w52 ⟨rfl, hb⟩; refine ⟨_, rfl, ?_⟩; have n0_ := zA (zAD (by repeat (first | (with_reducible first | exact HB.out | apply zH | apply zF | apply zG) | exact HB.out)) hb); clear HB; have HB := n0_; clear n0_; (try clear hb))); go_ret; exact ⟨by first | rfl | (simp <;> rfl) | (simp [*] <;> rfl), by repeat (first | (with_reducible first | exact HB.out | apply zH | apply zF | apply zG) | exact HB.out)⟩
                 ·rw [if_neg c50] at H
                  have c50b0 : (t99.toList == t882.toList) = false := beq_eq_false_iff_ne.mpr c50; have c50b1 : (t99.toList != t882.toList) = true := bne_iff_ne.mpr c50
                  as_aux_lemma =>
                   obtain rfl := Option.some.inj H; go_wp2_with (first | ((with_reducible refine yB (f := 46) rfl ?_); refine goesL_ (some 151) rfl rfl Try.func46 (by kernel_rfl) rfl #[.int .u8 104, .string t73] rfl (by (try simp only [zAA, zAB, zAC]); first | done | rfl) ?_; (with_reducible refine (impl_DigestOf.calls kj34 104 t73 t99 true _ A46.out).mono ?_); rintro e w53 ⟨rfl, hb⟩; refine ⟨_, rfl, ?_⟩; have n0_ := zA (zAD (by repeat (first | (with_reducible first | exact HB.out | apply zH | apply zF | apply zG) | exact HB.out)) hb); clear HB; have HB := n0_; clear n0_; (try clear hb)) | ((with_reducible refine yB (f := 46) rfl ?_); refine goesL_ (some 156) rfl rfl Try.func46 (by kernel_rfl) rfl #[.int .u8 104, .string t77] rfl (by (try simp only [zAA, zAB, zAC]); first | done | rfl) ?_; (with_reducible refine (impl_DigestOf.calls kj34 104 t77 t882 true _ A47.out).mono ?_); rintro e w54 ⟨rfl, hb⟩; refine ⟨_, rfl, ?_⟩; have n0_ := zA (zAD (by repeat (first | (with_reducible first | exact HB.out | apply zH | apply zF | apply zG) | exact HB.out)) hb); clear HB; have HB := n0_; clear n0_; (try clear hb))); go_ret; exact ⟨by first | rfl | (simp <;> rfl) | (simp [*] <;> rfl), by repeat (first | (with_reducible first | exact HB.out | apply zH | apply zF | apply zG) | exact HB.out)⟩
                ·replace c49 := Bool.eq_false_iff.mpr c49
                 subst c49; have H1 : (some false) = some r := by rw [if_neg (show ¬ (false = true) by decide)] at H; exact H
                 clear H; have H := H1; clear H1
                 as_aux_lemma =>
                  obtain rfl := Option.some.inj H; go_wp2_with (first | ((with_reducible refine yB (f := 46) rfl ?_); refine goesL_ (some 151) rfl rfl Try.func46 (by kernel_rfl) rfl #[.int .u8 104, .string t73] rfl (by (try simp only [zAA, zAB, zAC]); first | done | rfl) ?_; (with_reducible refine (impl_DigestOf.calls kj34 104 t73 t99 true _ A46.out).mono ?_); rintro e w55 ⟨rfl, hb⟩; refine ⟨_, rfl, ?_⟩; have n0_ := zA (zAD (by repeat (first | (with_reducible first | exact HB.out | apply zH | apply zF | apply zG) | exact HB.out)) hb); clear HB; have HB := n0_; clear n0_; (try clear hb)) | ((with_reducible refine yB (f := 46) rfl ?_); refine goesL_ (some 156) rfl rfl Try.func46 (by kernel_rfl) rfl #[.int .u8 104, .string t77] rfl (by (try simp only [zAA, zAB, zAC]); first | done | rfl) ?_; (with_reducible refine (impl_DigestOf.calls kj34 104 t77 t882 false _ A47.out).mono ?_); rintro e w56 ⟨rfl, hb⟩; refine ⟨_, rfl, ?_⟩; have n0_ := zA (zAD (by repeat (first | (with_reducible first | exact HB.out | apply zH | apply zF | apply zG) | exact HB.out)) hb); clear HB; have HB := n0_; clear n0_; (try clear hb))); go_ret; exact ⟨by first | rfl | (simp <;> rfl) | (simp [*] <;> rfl), by repeat (first | (with_reducible first | exact HB.out | apply zH | apply zF | apply zG) | exact HB.out)⟩
               ·replace c48 := Bool.eq_false_iff.mpr c48
                subst c48; have H1 : (some false) = some r := by rw [if_neg (show ¬ (false = true) by decide)] at H; exact H
                clear H; have H := H1; clear H1
                as_aux_lemma =>
                 obtain rfl := Option.some.inj H; go_wp2_with (first | ((with_reducible refine yB (f := 46) rfl ?_); refine goesL_ (some 151) rfl rfl Try.func46 (by kernel_rfl) rfl #[.int .u8 104, .string t73] rfl (by (try simp only [zAA, zAB, zAC]); first | done | rfl) ?_; (with_reducible refine (impl_DigestOf.calls kj34 104 t73 t99 false _ A46.out).mono ?_); rintro e w57 ⟨rfl, hb⟩; refine ⟨_, rfl, ?_⟩; have n0_ := zA (zAD (by repeat (first | (with_reducible first | exact HB.out | apply zH | apply zF | apply zG) | exact HB.out)) hb); clear HB; have HB := n0_; clear n0_; (try clear hb)) | ((with_reducible refine yB (f := 46) rfl ?_); refine goesL_ (some 156) rfl rfl Try.func46 (by kernel_rfl) rfl #[.int .u8 104, .string t77] rfl (by (try simp only [zAA, zAB, zAC]); first | done | rfl) ?_; (with_reducible refine (impl_DigestOf.calls kj34 104 t77 t882 t883 _ A47.out).mono ?_); rintro e w58 ⟨rfl, hb⟩; refine ⟨_, rfl, ?_⟩; have n0_ := zA (zAD (by repeat (first | (with_reducible first | exact HB.out | apply zH | apply zF | apply zG) | exact HB.out)) hb); clear HB; have HB := n0_; clear n0_; (try clear hb))); go_ret; exact ⟨by first | rfl | (simp <;> rfl) | (simp [*] <;> rfl), by repeat (first | (with_reducible first | exact HB.out | apply zH | apply zF | apply zG) | exact HB.out)⟩
              ·replace c45 := Bool.eq_false_iff.mpr c45
               subst c45; have H1 : (some true) = some r := by rw [if_neg (show ¬ (false = true) by decide)] at H; exact H
               clear H; have H := H1; clear H1
               as_aux_lemma =>
                obtain rfl := Option.some.inj H; go_wp2; go_ret; exact ⟨by first | rfl | (simp <;> rfl) | (simp [*] <;> rfl), by repeat (first | (with_reducible first | exact HB.out | apply zH | apply zF | apply zG) | exact HB.out)⟩
def laws_FnAudit.Pure : Prop := ∀ (l0 : List Int) (l1 : List Int), l0.length ≤ maxLen → l0.length * 1 ≤ 140737488351232 → (∀ x ∈ l0, (Lit.int .u8 x).wf = true) → l1.length ≤ maxLen → l1.length * 1 ≤ 140737488351232 → (∀ x ∈ l1, (Lit.int .u8 x).wf = true) → ∃ k, laws_FnAudit.f k l0 l1 = some true
theorem laws_FnAudit.walk (P : laws_FnAudit.Pure) (a0 : Option Addr) (len0 cap0 : Nat) (z0 : List Int) (a1 : Option Addr) (len1 cap1 : Nat) (z1 : List Int) (w : World) (w0 : (a0 = none ∧ len0 = 0 ∧ cap0 = 0 ∧ z0 = []) ∨ ∃ x, a0 = some x ∧ len0 ≤ cap0 ∧ cap0 ≤ maxLen ∧ z0.length = cap0 ∧ (∀ i, i < z0.length → w.cell? (x.add i) = some (.int .u8 (z0.getD i 0))) ∧ ∀ n ∈ z0, (Lit.int .u8 n).wf = true) (y0 : len0 * 1 ≤ 140737488351232) (w1 : (a1 = none ∧ len1 = 0 ∧ cap1 = 0 ∧ z1 = []) ∨ ∃ x, a1 = some x ∧ len1 ≤ cap1 ∧ cap1 ≤ maxLen ∧ z1.length = cap1 ∧ (∀ i, i < z1.length → w.cell? (x.add i) = some (.int .u8 (z1.getD i 0))) ∧ ∀ n ∈ z1, (Lit.int .u8 n).wf = true) (y1 : len1 * 1 ≤ 140737488351232) :
  Calls Try.prog 5 #[.slice a0 len0 cap0, .slice a1 len1 cap1] w fun e w' => e = .returned (.bool true) ∧ Below w.heap.size w w' := by
 obtain ⟨l0, rfl, hr0, hm0, hw0, hc0⟩ := ReadsInt.ofRowC w0; obtain ⟨l1, rfl, hr1, hm1, hw1, hc1⟩ := ReadsInt.ofRowC w1; obtain ⟨k, h⟩ := P l0 l1 hm0 y0 hw0 hm1 y1 hw1; refine (laws_FnAudit.calls k _ _ l0 _ _ l1 true w (Kd.C_of_reads (d := (0 : Int)) (h1 := fun _ => rfl) hr0) hc0 (Kd.C_of_reads (d := (0 : Int)) (h1 := fun _ => rfl) hr1) hc1 h).mono ?_; rintro e w' ⟨rfl, hd⟩; exact ⟨rfl, hd⟩
end Go.Proofs.Ythhkkhnjkoacnaa.PA
end
section
namespace Go.Proofs.Ythhkkhnjkoacnaa.PA













end Go.Proofs.Ythhkkhnjkoacnaa.PA
end
section
namespace Go.Proofs.Ythhkkhnjkoacnaa.PA
open Go.RowKit Go.Proofs.YthhkkhnjkoacnaaW.PrintWords Go.Proofs.YthhkkhnjkoacnaaW.PrintLast Go.Proofs.YthhkkhnjkoacnaaW.PrintMore
attribute [local go_sem] max2_int min2_int max_two min_two max_three min_three max_four min_four
set_option linter.unusedVariables false
set_option linter.unusedSimpArgs false
set_option maxHeartbeats 60000000
set_option maxRecDepth 100000
theorem eqA40 (d : Nat) (w : World) (x0 y0 : ByteArray) (x1 y1 : ByteArray) (x2 y2 : ByteArray) (x3 y3 : ByteArray) (x4 y4 : Bool) :
  (Op.equalIn (d + 2) 40 (.agg #[.string x0, .string x1, .string x2, .string x3, .bool x4]) (.agg #[.string y0, .string y1, .string y2, .string y3, .bool y4])).run Try.prog w = .ok (x0.toList == y0.toList && (x1.toList == y1.toList && (x2.toList == y2.toList && (x3.toList == y3.toList && (x4 == y4))))) w := by
 refine eqA_of Try.underlying40 (by kernel_rfl) ?_
 refine eqf_cons (by rfl) (by go_simp; rfl) (by go_simp; rfl) (by go_simp) ?_
 refine eqf_cons (by rfl) (by go_simp; rfl) (by go_simp; rfl) (by go_simp) ?_
 refine eqf_cons (by rfl) (by go_simp; rfl) (by go_simp; rfl) (by go_simp) ?_
 refine eqf_cons (by rfl) (by go_simp; rfl) (by go_simp; rfl) (by go_simp) ?_
 exact eqf_last (by rfl) (by go_simp; rfl) (by go_simp; rfl) (by go_simp)
end Go.Proofs.Ythhkkhnjkoacnaa.PA
end
section
namespace Go.Proofs.Ythhkkhnjkoacnaa.PA

end Go.Proofs.Ythhkkhnjkoacnaa.PA
end
section
namespace Go.Proofs.Ythhkkhnjkoacnaa.PB
open Go.RowKit Go.Proofs.YthhkkhnjkoacnaaW.PrintWords Go.Proofs.YthhkkhnjkoacnaaW.PrintLast Go.Proofs.YthhkkhnjkoacnaaW.PrintMore
set_option linter.unusedVariables false
theorem ev_pos {α : Type} {c : Prop} [Decidable c] {f g : Nat → Option α} {r : α} (hc : c) (h : Ev f r) : Ev (fun k => if c then f k else g k) r := by
 simp only [if_pos hc]; exact h
theorem ev_neg {α : Type} {c : Prop} [Decidable c] {f g : Nat → Option α} {r : α} (hc : ¬ c) (h : Ev g r) : Ev (fun k => if c then f k else g k) r := by
 simp only [if_neg hc]; exact h
theorem ev_bind {α β : Type} {g : Nat → Option α} {f : Nat → α → Option β} {a : α} {r : β} (h : Ev g a) (k : Ev (fun n => f n a) r) : Ev (fun n => (g n).bind (f n)) r := Ev.bind h k
theorem ev_const {α β : Type} {o : Option α} {f : Nat → α → Option β} {a : α} {r : β} (h : o = some a) (k : Ev (fun n => f n a) r) : Ev (fun n => o.bind (f n)) r := by
 subst h; exact k
theorem ev_of_eq {α : Type} {o : Option α} {r : α} (h : o = some r) : Ev (fun _ => o) r := by subst h; exact Ev.now r
theorem ev_eq {α : Type} {f : Nat → Option α} {r r' : α} (h : Ev f r) (e : r = r') : Ev f r' := e ▸ h
theorem ev_unique {α : Type} {f : Nat → Option α} {r r' : α} (h : Ev f r) (h' : Ev f r') : r = r' := by
 obtain ⟨K, h⟩ := h
 obtain ⟨K', h'⟩ := h'
 have := (h (max K K') (by omega)).symm.trans (h' (max K K') (by omega))
 simpa using this
theorem w64 {x : Int} (h0 : -9223372036854775808 ≤ x) (h1 : x ≤ 9223372036854775807) : wrap64 x = x := by
 unfold wrap64; omega
theorem ba_ext {a b : ByteArray} (h : a.toList = b.toList) : a = b := by
 rw [ByteArray.toList_eq, ByteArray.toList_eq] at h
 have h' : a.data = b.data := Array.toList_inj.mp h
 cases a; cases b; simp_all
theorem ba_iff {a b : ByteArray} : a.toList = b.toList ↔ a = b := ⟨ba_ext, fun h => by rw [h]⟩
theorem size_toList (s : ByteArray) : s.toList.length = s.size := by rw [ByteArray.toList_eq]; exact data_length s
theorem bt_get (s : ByteArray) (i : Nat) (h : i < s.size) : bt s (i : Int) = ((s.toList.getD i 0).toNat : Int) := by
 rw [ByteArray.toList_eq]
 unfold bt
 rw [dif_pos (by simpa using h)]
 have h' : i < s.data.toList.length := by rw [data_length]; exact h
 simp [List.getD_eq_getElem?_getD, List.getElem?_eq_getElem h']
 rfl
end Go.Proofs.Ythhkkhnjkoacnaa.PB
end
section
namespace Go.Proofs.Ythhkkhnjkoacnaa.PD
open Go.RowKit Go.Proofs.YthhkkhnjkoacnaaW.PrintWords Go.Proofs.YthhkkhnjkoacnaaW.PrintLast Go.Proofs.YthhkkhnjkoacnaaW.PrintMore Go.Proofs.Ythhkkhnjkoacnaa.PB Go.Proofs.Ythhkkhnjkoacnaa.PA
set_option linter.unusedVariables false
def dstep (p : Int × Int) (c : UInt8) : Int × Int := ((p.1 + (c.toNat : Int)) % 65521, (p.2 + (p.1 + (c.toNat : Int)) % 65521) % 65521)
def dfold (p : Int × Int) (l : List UInt8) : Int × Int := l.foldl dstep p
def InP (p : Int × Int) : Prop := 0 ≤ p.1 ∧ p.1 < 65521 ∧ 0 ≤ p.2 ∧ p.2 < 65521
theorem dstep_in {p : Int × Int} {c : UInt8} : InP (dstep p c) := by
 unfold InP dstep; refine ⟨?_, ?_, ?_, ?_⟩ <;> simp only <;> omega
theorem dfold_in {p : Int × Int} (h : InP p) (l : List UInt8) : InP (dfold p l) := by
 induction l generalizing p with
 | nil => exact h
 | cons c l ih => exact ih dstep_in
def four (p : Int × Int) : ByteArray := strOfNums [p.2 / 256 % 256, p.2 % 256, p.1 / 256 % 256, p.1 % 256]
def dig (kind : Int) (s : ByteArray) : ByteArray := four (dfold (kind + 1, kind + 1) s.toList)
theorem drop_at (l : List UInt8) (i : Nat) (h : i < l.length) : l.drop i = l.getD i 0 :: l.drop (i + 1) := by
 rw [List.drop_eq_getElem_cons h]; simp [List.getD_eq_getElem?_getD, List.getElem?_eq_getElem h]
theorem step_arith {A B : Int} {c : Nat} (hA : 0 ≤ A ∧ A < 65521 ∧ 0 ≤ B ∧ B < 65521) (hc : c < 256) :
  Int.tmod (wrap64 (A + wrap64 (c : Int))) 65521 = (A + (c : Int)) % 65521 ∧ Int.tmod (wrap64 (B + (A + (c : Int)) % 65521)) 65521 = (B + (A + (c : Int)) % 65521) % 65521 := by
 have h1 : wrap64 (c : Int) = c := w64 (by omega) (by omega)
 have h2 : wrap64 (A + c) = A + c := w64 (by omega) (by omega)
 have h3 : wrap64 (B + (A + (c : Int)) % 65521) = B + (A + (c : Int)) % 65521 := w64 (by omega) (by omega)
 rw [h1, h2, h3, Int.tmod_eq_emod_of_nonneg (by omega), Int.tmod_eq_emod_of_nonneg (by omega)]
 exact ⟨rfl, rfl⟩
theorem feed_spec (s : ByteArray) (hs : s.size ≤ 1000000000000) (L : Int) (hL : 0 ≤ L ∧ L ≤ 1000000000000) : ∀ (d i : Nat) (A B : Int), i + d = s.size → InP (A, B) →
  Ev (fun k => spec_l1Feed.l0 k s (i : Int) A B L) ((dfold (A, B) (s.toList.drop i)).1, (dfold (A, B) (s.toList.drop i)).2, L + s.size) := by
 intro d
 induction d with
 | zero =>
  intro i A B hi hp
  refine Ev.step (f := fun _ => some (A, B, wrap64 (L + (s.size : Int)))) (fun k => ?_) ?_
  ·simp only [spec_l1Feed.l0]; rw [if_neg (by omega)]
  ·rw [List.drop_eq_nil_of_le (by rw [size_toList]; omega)]
   rw [w64 (by omega) (by omega)]
   exact Ev.now _
 | succ d ih =>
  intro i A B hi hp
  have hlt : i < s.size := by omega
  have hb := bt_get s i hlt
  have hc : (s.toList.getD i 0).toNat < 256 := UInt8.toNat_lt _
  have ha := step_arith (A := A) (B := B) hp hc
  refine Ev.step (f := fun k => spec_l1Feed.l0 k s ((i + 1 : Nat) : Int) (dstep (A, B) (s.toList.getD i 0)).1 (dstep (A, B) (s.toList.getD i 0)).2 L) (fun k => ?_) ?_
  ·simp only [spec_l1Feed.l0]; rw [if_pos (by omega), if_pos (by omega), hb, ha.1, ha.2, w64 (x := (i : Int) + 1) (by omega) (by omega)]
   simp only [dstep]
   congr 1
  ·rw [drop_at _ _ (by rw [size_toList]; exact hlt)]
   exact ih (i + 1) _ _ (by omega) dstep_in
theorem feed_impl (s : ByteArray) (hs : s.size ≤ 1000000000000) (L : Int) (hL : 0 ≤ L ∧ L ≤ 1000000000000) : ∀ (d i : Nat) (A B : Int), i + d = s.size → InP (A, B) →
  Ev (fun k => impl_Mix_feed.l0 k s (s.size : Int) (i : Int) A B L) ((dfold (A, B) (s.toList.drop i)).1, (dfold (A, B) (s.toList.drop i)).2, L + s.size) := by
 intro d
 induction d with
 | zero =>
  intro i A B hi hp
  refine Ev.step (f := fun _ => some (A, B, wrap64 (L + (s.size : Int)))) (fun k => ?_) ?_
  ·simp only [impl_Mix_feed.l0]; rw [if_neg (by omega)]
  ·rw [List.drop_eq_nil_of_le (by rw [size_toList]; omega)]
   rw [w64 (by omega) (by omega)]
   exact Ev.now _
 | succ d ih =>
  intro i A B hi hp
  have hlt : i < s.size := by omega
  have hb := bt_get s i hlt
  have hc : (s.toList.getD i 0).toNat < 256 := UInt8.toNat_lt _
  have ha := step_arith (A := A) (B := B) hp hc
  refine Ev.step (f := fun k => impl_Mix_feed.l0 k s (s.size : Int) ((i + 1 : Nat) : Int) (dstep (A, B) (s.toList.getD i 0)).1 (dstep (A, B) (s.toList.getD i 0)).2 L) (fun k => ?_) ?_
  ·simp only [impl_Mix_feed.l0]; rw [if_pos (by omega), if_pos (by omega), if_pos (by omega), hb, ha.1, ha.2, w64 (x := (i : Int) + 1) (by omega) (by omega)]
   simp only [dstep]
   congr 1
  ·rw [drop_at _ _ (by rw [size_toList]; exact hlt)]
   exact ih (i + 1) _ _ (by omega) dstep_in
def Kd_ (c : Int) : Prop := 97 ≤ c ∧ c ≤ 122
theorem digS (kind : Int) (hk : Kd_ kind) (s : ByteArray) (hs : s.size ≤ 1000000000000) : Ev (fun k => spec_l1Digest.f k kind s) (dig kind s) := by
 obtain ⟨h0, h1⟩ := hk
 have e1 : spec_NewMix.f kind = some (kind + 1, kind + 1, 0, true) := by
  unfold spec_NewMix.f spec_l1Kind.f
  rw [if_pos (by omega)]
  simp only [Option.bind_some, decide_eq_true h1, if_true]
  rw [w64 (x := kind) (by omega) (by omega), w64 (by omega) (by omega), Int.add_comm]
 have hp : InP (kind + 1, kind + 1) := by unfold InP; refine ⟨?_, ?_, ?_, ?_⟩ <;> simp only <;> omega
 obtain ⟨K, h⟩ := feed_spec s hs 0 (by omega) s.size 0 (kind + 1) (kind + 1) (by omega) hp
 refine ⟨K, fun k hk => ?_⟩
 have h' := h k hk
 dsimp only at h'
 rw [show ((0 : Nat) : Int) = 0 from rfl] at h'
 unfold spec_l1Digest.f spec_l1Feed.f spec_l1End.f
 simp only [e1, Option.bind_some]
 rw [h']
 simp only [Option.bind_some, List.drop_zero]
 rfl
theorem digI (kind : Int) (hk : Kd_ kind) (s : ByteArray) (hs : s.size ≤ 1000000000000) : Ev (fun k => impl_digest.f k kind s) (dig kind s) := by
 obtain ⟨h0, h1⟩ := hk
 have e1 : impl_newMix.f kind = some (kind + 1, kind + 1, 0) := by
  unfold impl_newMix.f
  rw [w64 (x := kind) (by omega) (by omega), w64 (by omega) (by omega)]
 have hp : InP (kind + 1, kind + 1) := by unfold InP; refine ⟨?_, ?_, ?_, ?_⟩ <;> simp only <;> omega
 obtain ⟨K, h⟩ := feed_impl s hs 0 (by omega) s.size 0 (kind + 1) (kind + 1) (by omega) hp
 refine ⟨K, fun k hk => ?_⟩
 have h' := h k hk
 dsimp only at h'
 rw [show ((0 : Nat) : Int) = 0 from rfl] at h'
 have hq := dfold_in hp s.toList
 unfold impl_digest.f impl_Mix_feed.f impl_Mix_end.f
 simp only [e1, Option.bind_some]
 rw [h']
 simp only [Option.bind_some, List.drop_zero]
 unfold dig four
 generalize dfold (kind + 1, kind + 1) s.toList = p at hq ⊢
 obtain ⟨q0, q1, q2, q3⟩ := hq
 rw [Int.tdiv_eq_ediv_of_nonneg q2, Int.tdiv_eq_ediv_of_nonneg q0, Int.tmod_eq_emod_of_nonneg q2, Int.tmod_eq_emod_of_nonneg q0, w64 (x := p.2 / 256) (by omega) (by omega), w64 (x := p.1 / 256) (by omega) (by omega)]
 rw [Int.emod_emod_of_dvd p.2 (Int.dvd_refl _), Int.emod_emod_of_dvd p.1 (Int.dvd_refl _)]
def one (n : Int) : ByteArray := strOfNums [n % 256]
theorem one_size (n : Int) : (one n).size = 1 := by unfold one; rw [strOfNums_size]; rfl
theorem oneI (n : Int) : impl_oneByte.f n = some (one n) := rfl
end Go.Proofs.Ythhkkhnjkoacnaa.PD
end
section
namespace Go.Proofs.Ythhkkhnjkoacnaa.PK
open Go.RowKit Go.Proofs.YthhkkhnjkoacnaaW.PrintWords Go.Proofs.YthhkkhnjkoacnaaW.PrintLast Go.Proofs.YthhkkhnjkoacnaaW.PrintMore Go.Proofs.Ythhkkhnjkoacnaa.PB Go.Proofs.Ythhkkhnjkoacnaa.PD Go.Proofs.Ythhkkhnjkoacnaa.PA
set_option linter.unusedVariables false
theorem app_size (a b : ByteArray) : (a ++ b).size = a.size + b.size := ByteArray.size_append
def sm : List Int → Int
 | [] => 0
 | n :: l => (15 - n) + sm l
end Go.Proofs.Ythhkkhnjkoacnaa.PK
end
section
namespace Go.Proofs.Ythhkkhnjkoacnaa.PL
open Go.RowKit Go.Proofs.YthhkkhnjkoacnaaW.PrintWords Go.Proofs.YthhkkhnjkoacnaaW.PrintLast Go.Proofs.YthhkkhnjkoacnaaW.PrintMore Go.Proofs.Ythhkkhnjkoacnaa.PB Go.Proofs.Ythhkkhnjkoacnaa.PA
set_option linter.unusedVariables false
theorem rdOf_at {α : Type} (d : α) (l : List α) (i : Nat) (h : i < l.length) : rdOf d l (i : Int) = l[i] := by
 simp [rdOf, List.getD_eq_getElem?_getD, List.getElem?_eq_getElem h]
def szL : List ByteArray → Nat
 | [] => 0
 | s :: l => s.size + szL l
def total (l : List ByteArray) : Nat := l.length + szL l
end Go.Proofs.Ythhkkhnjkoacnaa.PL
end
section
namespace Go.Proofs.Ythhkkhnjkoacnaa.PS

end Go.Proofs.Ythhkkhnjkoacnaa.PS
end
section
namespace Go.Proofs.Ythhkkhnjkoacnaa.PT

end Go.Proofs.Ythhkkhnjkoacnaa.PT
end
section
namespace Go.Proofs.Ythhkkhnjkoacnaa.PU
open Go.RowKit Go.Proofs.YthhkkhnjkoacnaaW.PrintWords Go.Proofs.YthhkkhnjkoacnaaW.PrintLast Go.Proofs.YthhkkhnjkoacnaaW.PrintMore Go.Proofs.Ythhkkhnjkoacnaa.PB Go.Proofs.Ythhkkhnjkoacnaa.PD Go.Proofs.Ythhkkhnjkoacnaa.PK Go.Proofs.Ythhkkhnjkoacnaa.PL Go.Proofs.Ythhkkhnjkoacnaa.PS Go.Proofs.Ythhkkhnjkoacnaa.PT Go.Proofs.Ythhkkhnjkoacnaa.PA
set_option linter.unusedVariables false
theorem idx_any {α : Type} (l : List α) (rf : List α → Int → α) (hrf : ∀ i (h : i < l.length), rf l (i : Int) = l[i]) (L0 : Nat → List α → Int → Int → Option Int) (cl : Nat → α → Option Bool) (p : α → Bool)
  (hstep : ∀ k n i, L0 (k + 1) l n i = if i < n then (if 0 ≤ i then (if i < (l.length : Int) then ((cl k (rf l i)).bind fun t => if t = true then some i else L0 k l n (wrap64 (i + 1))) else none) else none) else some (-1))
  (hp : ∀ x ∈ l, Ev (fun k => cl k x) (p x)) (hl : l.length ≤ 4000000000000000000) : ∃ r, Ev (fun k => L0 k l (l.length : Int) 0) r ∧ decide (r ≥ 0) = l.any p := by
 have key : ∀ (d i : Nat), i + d = l.length → ∃ r, Ev (fun k => L0 k l (l.length : Int) (i : Int)) r ∧ decide (r ≥ 0) = (l.drop i).any p := by
  intro d
  induction d with
  | zero =>
   intro i hi
   refine ⟨-1, Ev.step (f := fun _ => some (-1)) (fun k => ?_) (Ev.now _), ?_⟩
   ·rw [hstep, if_neg (by omega)]
   ·rw [List.drop_eq_nil_of_le (by omega)]; rfl
  | succ d ih =>
   intro i hi
   have hlt : i < l.length := by omega
   have hpx := hp _ (List.getElem_mem hlt)
   rw [List.drop_eq_getElem_cons hlt, List.any_cons]
   have st : ∀ k, L0 (k + 1) l (l.length : Int) (i : Int) = (cl k l[i]).bind fun t => if t = true then some (i : Int) else L0 k l (l.length : Int) ((i + 1 : Nat) : Int) := by
    intro k
    rw [hstep, if_pos (by omega), if_pos (by omega), if_pos (by omega), hrf i hlt, w64 (x := (i : Int) + 1) (by omega) (by omega)]
    rfl
   cases hb : p l[i] with
   | true =>
    rw [hb] at hpx
    refine ⟨(i : Int), Ev.step (f := fun k => (cl k l[i]).bind fun t => if t = true then some (i : Int) else L0 k l (l.length : Int) ((i + 1 : Nat) : Int)) st (ev_bind hpx (ev_pos rfl (Ev.now _))), ?_⟩
    simp only [Bool.true_or]
    exact decide_eq_true (by omega)
   | false =>
    rw [hb] at hpx
    obtain ⟨r, hr, e⟩ := ih (i + 1) (by omega)
    refine ⟨r, Ev.step (f := fun k => (cl k l[i]).bind fun t => if t = true then some (i : Int) else L0 k l (l.length : Int) ((i + 1 : Nat) : Int)) st (ev_bind hpx (ev_neg (by simp) hr)), ?_⟩
    rw [Bool.false_or]; exact e
 obtain ⟨r, hr, e⟩ := key l.length 0 (by omega)
 exact ⟨r, hr, by rw [e, List.drop_zero]⟩
theorem isDigI (s : ByteArray) : impl_isDigest.f s = some (decide (s.size = 4)) := by
 unfold impl_isDigest.f
 refine congrArg some ?_
 by_cases h : s.size = 4
 ·rw [decide_eq_true h, h]; rfl
 ·rw [decide_eq_false h]; exact beq_eq_false_iff_ne.mpr (by omega)
end Go.Proofs.Ythhkkhnjkoacnaa.PU
end
section
namespace Go.Proofs.Ythhkkhnjkoacnaa.PG
open Go.RowKit Go.Proofs.YthhkkhnjkoacnaaW.PrintWords Go.Proofs.YthhkkhnjkoacnaaW.PrintLast Go.Proofs.YthhkkhnjkoacnaaW.PrintMore Go.Proofs.Ythhkkhnjkoacnaa.PB Go.Proofs.Ythhkkhnjkoacnaa.PL
set_option linter.unusedVariables false
theorem loop_up {β : Type} {r : β} (n : Nat) (S : Nat → Nat → Option β) (hend : Ev (S n) r) (hround : ∀ i, i < n → Ev (S (i + 1)) r → Ev (S i) r) : Ev (S 0) r := by
 have key : ∀ d i, i + d = n → Ev (S i) r := by
  intro d
  induction d with
  | zero => intro i hi; rw [show i = n by omega]; exact hend
  | succ d ih => intro i hi; exact hround i (by omega) (ih (i + 1) (by omega))
 exact key n 0 (by omega)
end Go.Proofs.Ythhkkhnjkoacnaa.PG
end
section
namespace Go.Proofs.Ythhkkhnjkoacnaa.PQ
open Go.RowKit Go.Proofs.YthhkkhnjkoacnaaW.PrintWords Go.Proofs.YthhkkhnjkoacnaaW.PrintLast Go.Proofs.YthhkkhnjkoacnaaW.PrintMore Go.Proofs.Ythhkkhnjkoacnaa.PB Go.Proofs.Ythhkkhnjkoacnaa.PD Go.Proofs.Ythhkkhnjkoacnaa.PK Go.Proofs.Ythhkkhnjkoacnaa.PL Go.Proofs.Ythhkkhnjkoacnaa.PS Go.Proofs.Ythhkkhnjkoacnaa.PT Go.Proofs.Ythhkkhnjkoacnaa.PU Go.Proofs.Ythhkkhnjkoacnaa.PG Go.Proofs.Ythhkkhnjkoacnaa.PA
set_option linter.unusedVariables false
def rowFrom : ByteArray → List ByteArray → ByteArray
 | acc, [] => acc
 | acc, s :: l => rowFrom (acc ++ (one (s.size : Int) ++ s)) l
def rowM (l : List ByteArray) : ByteArray := rowFrom ⟨#[]⟩ l
theorem rowFrom_size (l : List ByteArray) : ∀ acc, (rowFrom acc l).size = acc.size + total l := by
 induction l with
 | nil => intro acc; simp [rowFrom, total, szL]
 | cons s l ih =>
  intro acc
  have e : total (s :: l) = 1 + s.size + total l := by simp only [total, szL, List.length_cons]; omega
  rw [show rowFrom acc (s :: l) = rowFrom (acc ++ (one (s.size : Int) ++ s)) l from rfl, ih, app_size, app_size, one_size, e]; omega
theorem rowM_size (l : List ByteArray) : (rowM l).size = total l := by
 unfold rowM; rw [rowFrom_size]; exact Nat.zero_add _
theorem rowS (l : List ByteArray) (hl : total l ≤ 1000000000) : Ev (fun k => spec_l1Row.f k l) (rowM l) := by
 have hlen : l.length ≤ 1000000000 := by unfold total at hl; omega
 have key : ∀ (d i : Nat) (acc : ByteArray), i + d = l.length → acc.size + total (l.drop i) ≤ 2000000000 → Ev (fun k => spec_l1Row.l0 k acc l (l.length : Int) (i : Int)) (rowFrom acc (l.drop i)) := by
  intro d
  induction d with
  | zero =>
   intro i acc hi _
   rw [List.drop_eq_nil_of_le (by omega)]
   refine Ev.step (f := fun _ => some acc) (fun k => ?_) (Ev.now _)
   simp only [spec_l1Row.l0]; rw [if_neg (by omega)]
  | succ d ih =>
   intro i acc hi ha
   have hlt : i < l.length := by omega
   rw [List.drop_eq_getElem_cons hlt] at ha ⊢
   have e : total (l[i] :: l.drop (i + 1)) = 1 + l[i].size + total (l.drop (i + 1)) := by simp only [total, szL, List.length_cons]; omega
   rw [e] at ha
   refine Ev.step (f := fun k => spec_l1Row.l0 k (acc ++ (one (l[i].size : Int) ++ l[i])) l (l.length : Int) ((i + 1 : Nat) : Int)) (fun k => ?_) ?_
   ·simp only [spec_l1Row.l0]
    rw [if_pos (by omega), if_pos (by omega), if_pos (by omega), rdOf_at _ _ _ hlt, w64 (x := (i : Int) + 1) (by omega) (by omega)]
    have e1 : (strOfNums [(l[i].size : Int) % 256]).size = 1 := by rw [strOfNums_size]; rfl
    simp only [Option.bind_some]
    rw [if_pos (by omega), if_pos (by rw [app_size]; omega)]
    rfl
   ·exact ih (i + 1) _ (by omega) (by rw [app_size, app_size, one_size]; omega)
 exact key l.length 0 ⟨#[]⟩ (by omega) (by rw [List.drop_zero]; show 0 + total l ≤ _; omega)
theorem kindI (c : Int) : impl_isKind.f c = some (decide (97 ≤ c ∧ c ≤ 122)) := by
 unfold impl_isKind.f
 by_cases h : c ≥ 97
 ·rw [if_pos h]; simp [show 97 ≤ c from h]
 ·rw [if_neg h]; simp [show ¬ 97 ≤ c from h]
def digestOfM (kind : Int) (s : ByteArray) : ByteArray × Bool := if (97 ≤ kind ∧ kind ≤ 122) ∧ s.size ≤ 600 then (dig kind s, true) else (⟨#[]⟩, false)
theorem digestOfI (kind : Int) (s : ByteArray) : Ev (fun k => impl_DigestOf.f k kind s) (digestOfM kind s) := by
 unfold digestOfM
 by_cases h1 : 97 ≤ kind ∧ kind ≤ 122
 ·by_cases h2 : s.size ≤ 600
  ·rw [if_pos ⟨h1, h2⟩]
   exact ev_const (kindI kind) (ev_pos (decide_eq_true h1) (ev_neg (by omega) (ev_bind (digI kind h1 s (by omega)) (Ev.now _))))
  ·rw [if_neg (fun h => h2 h.2)]
   exact ev_const (kindI kind) (ev_pos (decide_eq_true h1) (ev_pos (by omega) (Ev.now _)))
 ·rw [if_neg (fun h => h1 h.1)]
  exact ev_const (kindI kind) (ev_neg (by simp [h1]) (Ev.now _))
end Go.Proofs.Ythhkkhnjkoacnaa.PQ
end
section
namespace Go.Proofs.Ythhkkhnjkoacnaa.PV
open Go.RowKit Go.Proofs.YthhkkhnjkoacnaaW.PrintWords Go.Proofs.YthhkkhnjkoacnaaW.PrintLast Go.Proofs.YthhkkhnjkoacnaaW.PrintMore Go.Proofs.Ythhkkhnjkoacnaa.PB Go.Proofs.Ythhkkhnjkoacnaa.PD Go.Proofs.Ythhkkhnjkoacnaa.PK Go.Proofs.Ythhkkhnjkoacnaa.PL Go.Proofs.Ythhkkhnjkoacnaa.PS Go.Proofs.Ythhkkhnjkoacnaa.PT Go.Proofs.Ythhkkhnjkoacnaa.PU Go.Proofs.Ythhkkhnjkoacnaa.PG Go.Proofs.Ythhkkhnjkoacnaa.PQ Go.Proofs.Ythhkkhnjkoacnaa.PA
set_option linter.unusedVariables false
theorem rdI_at (l : List S40) (i : Nat) (h : i < l.length) : rd_T40 l (i : Int) = l[i] := by
 simp [rd_T40, List.getD_eq_getElem?_getD, List.getElem?_eq_getElem h]
end Go.Proofs.Ythhkkhnjkoacnaa.PV
end
section
namespace Go.Proofs.Ythhkkhnjkoacnaa.PW
open Go.RowKit Go.Proofs.YthhkkhnjkoacnaaW.PrintWords Go.Proofs.YthhkkhnjkoacnaaW.PrintLast Go.Proofs.YthhkkhnjkoacnaaW.PrintMore Go.Proofs.Ythhkkhnjkoacnaa.PB Go.Proofs.Ythhkkhnjkoacnaa.PD Go.Proofs.Ythhkkhnjkoacnaa.PK Go.Proofs.Ythhkkhnjkoacnaa.PL Go.Proofs.Ythhkkhnjkoacnaa.PS Go.Proofs.Ythhkkhnjkoacnaa.PT Go.Proofs.Ythhkkhnjkoacnaa.PU Go.Proofs.Ythhkkhnjkoacnaa.PG Go.Proofs.Ythhkkhnjkoacnaa.PQ Go.Proofs.Ythhkkhnjkoacnaa.PV Go.Proofs.Ythhkkhnjkoacnaa.PA
set_option linter.unusedVariables false
noncomputable def ch (P : Prop) : Bool := @decide P (Classical.propDecidable P)
theorem ch_yes {P : Prop} (h : P) : ch P = true := @decide_eq_true P (Classical.propDecidable P) h
theorem ch_no {P : Prop} (h : ¬ P) : ch P = false := @decide_eq_false P (Classical.propDecidable P) h
theorem ch_true {P : Prop} (h : ch P = true) : P := @of_decide_eq_true P (Classical.propDecidable P) h
theorem loop_yes {β : Type} (n : Nat) (S : Nat → Nat → Option β) (Q : Nat → Prop) (b : β) (hround : ∀ r i, i < n → Q i → Ev (S (i + 1)) r → Ev (S i) r) (hend : Ev (S n) b) (hq : ∀ i, i < n → Q i) : Ev (S 0) b :=
 loop_up n S hend (fun i hi h => hround b i hi (hq i hi) h)
theorem loop_no {β : Type} (n : Nat) (S : Nat → Nat → Option β) (Q : Nat → Prop) (no : β) (hround : ∀ r i, i < n → Q i → Ev (S (i + 1)) r → Ev (S i) r) (hno : ∀ i, i < n → ¬ Q i → Ev (S i) no) (hq : ¬ ∀ i, i < n → Q i) : Ev (S 0) no := by
 refine Classical.byContradiction fun hc => hq ?_
 have key : ∀ i, i ≤ n → (¬ Ev (S i) no) ∧ ∀ j, j < i → Q j := by
  intro i
  induction i with
  | zero => intro _; exact ⟨hc, fun j hj => absurd hj (Nat.not_lt_zero j)⟩
  | succ i ih =>
   intro hi
   obtain ⟨h1, h2⟩ := ih (by omega)
   have hQ : Q i := Classical.byContradiction fun h => h1 (hno i (by omega) h)
   refine ⟨fun h => h1 (hround no i (by omega) hQ h), fun j hj => ?_⟩
   by_cases e : j = i
   ·subst e; exact hQ
   ·exact h2 j (by omega)
 exact (key n (Nat.le_refl n)).2
theorem has_str (l : List ByteArray) (L0 : Nat → List ByteArray → Int → Int → Option Int) (cl : Nat → ByteArray → Option Bool) (p : ByteArray → Bool)
  (hstep : ∀ k n i, L0 (k + 1) l n i = if i < n then (if 0 ≤ i then (if i < (l.length : Int) then ((cl k (rdOf ByteArray.empty l i)).bind fun t => if t = true then some i else L0 k l n (wrap64 (i + 1))) else none) else none) else some (-1))
  (hp : ∀ x ∈ l, Ev (fun k => cl k x) (p x)) (hl : l.length ≤ 4000000000000000000) : Ev (fun k => (L0 k l (l.length : Int) 0).bind fun t => some (decide (t ≥ 0))) (l.any p) := by
 obtain ⟨r, hr, e⟩ := idx_any l (fun l i => rdOf ByteArray.empty l i) (fun i h => rdOf_at _ l i h) L0 cl p hstep hp hl
 rw [← e]
 exact ev_bind (f := fun _ t => some (decide (t ≥ 0))) hr (Ev.now _)
theorem not_any {α : Type} (p : α → Bool) : ∀ l : List α, (l.any fun s => !p s) = !(l.all p) := by
 intro l
 induction l with
 | nil => rfl
 | cons x l ih => simp only [List.any_cons, List.all_cons, Bool.not_and, ih]
theorem all_at (l : List ByteArray) (p : ByteArray → Bool) : l.all p = true ↔ ∀ i, i < l.length → p (rdOf ByteArray.empty l (i : Int)) = true := by
 rw [List.all_eq_true]
 constructor
 ·intro h i hi
  rw [rdOf_at _ _ _ hi]
  exact h _ (List.getElem_mem hi)
 ·intro h x hx
  obtain ⟨i, hi, e⟩ := List.getElem_of_mem hx
  have := h i hi
  rw [rdOf_at _ _ _ hi, e] at this
  exact this
abbrev tx (l : List ByteArray) (i : Nat) : ByteArray := rdOf ByteArray.empty l (i : Int)
end Go.Proofs.Ythhkkhnjkoacnaa.PW
end
section
namespace Go.Proofs.Ythhkkhnjkoacnaa.PX
open Go.RowKit Go.Proofs.YthhkkhnjkoacnaaW.PrintWords Go.Proofs.YthhkkhnjkoacnaaW.PrintLast Go.Proofs.YthhkkhnjkoacnaaW.PrintMore Go.Proofs.Ythhkkhnjkoacnaa.PB Go.Proofs.Ythhkkhnjkoacnaa.PD Go.Proofs.Ythhkkhnjkoacnaa.PK Go.Proofs.Ythhkkhnjkoacnaa.PL Go.Proofs.Ythhkkhnjkoacnaa.PS Go.Proofs.Ythhkkhnjkoacnaa.PT Go.Proofs.Ythhkkhnjkoacnaa.PU Go.Proofs.Ythhkkhnjkoacnaa.PG Go.Proofs.Ythhkkhnjkoacnaa.PQ Go.Proofs.Ythhkkhnjkoacnaa.PW Go.Proofs.Ythhkkhnjkoacnaa.PA
set_option linter.unusedVariables false
def itemB (s : ByteArray) : Bool := decide ((s.size : Int) ≤ 60)
def blockB (a b : ByteArray) (l : List ByteArray) : Bool := decide (a.size = 4) && (decide (b.size = 4) && (decide (l.length ≤ 6) && l.all itemB))
theorem goodBlockS (a b : ByteArray) (l : List ByteArray) (hl : l.length ≤ 2000000) : Ev (fun k => spec_GoodBlock.f k a b l) (blockB a b l) := by
 have round : ∀ (r : Bool) i, i < l.length → itemB (tx l i) = true → Ev (fun k => spec_GoodBlock.l0 k l (l.length : Int) ((i + 1 : Nat) : Int) a b l) r → Ev (fun k => spec_GoodBlock.l0 k l (l.length : Int) (i : Int) a b l) r := by
  intro r i hi hq h
  have hq' : ((rdOf ByteArray.empty l (i : Int)).size : Int) ≤ 60 := of_decide_eq_true hq
  refine Ev.step (f := fun k => spec_GoodBlock.l0 k l (l.length : Int) ((i + 1 : Nat) : Int) a b l) (fun k => ?_) h
  simp only [spec_GoodBlock.l0]
  rw [if_pos (by omega), if_pos (by omega), if_pos (by omega), if_neg (by omega), w64 (x := (i : Int) + 1) (by omega) (by omega)]
  rfl
 by_cases h : ∀ i, i < l.length → itemB (tx l i) = true
 ·have ha : l.all itemB = true := (all_at l _).2 h
  refine loop_yes l.length (fun i k => spec_GoodBlock.l0 k l (l.length : Int) (i : Int) a b l) _ _ round ?_ h
  refine Ev.step (f := fun k => if (a.size : Int) = 4 then (if (b.size : Int) = 4 then (some (decide ((l.length : Int) ≤ 6))) else (some false)) else (some false)) (fun k => by simp only [spec_GoodBlock.l0]; rw [if_neg (by omega)]) ?_
  unfold blockB
  rw [ha, Bool.and_true]
  by_cases h1 : a.size = 4
  ·refine ev_pos (by omega) ?_
   rw [decide_eq_true h1, Bool.true_and]
   by_cases h2 : b.size = 4
   ·refine ev_pos (by omega) ?_
    rw [decide_eq_true h2, Bool.true_and]
    by_cases h3 : l.length ≤ 6
    ·rw [decide_eq_true h3]; exact ev_eq (Ev.now _) (decide_eq_true (by omega))
    ·rw [decide_eq_false h3]; exact ev_eq (Ev.now _) (decide_eq_false (by omega))
   ·rw [decide_eq_false h2]; exact ev_neg (by omega) (Ev.now _)
  ·rw [decide_eq_false h1]; exact ev_neg (by omega) (Ev.now _)
 ·have ha : l.all itemB = false := by
   cases e : l.all itemB with
   | false => rfl
   | true => exact absurd ((all_at l _).1 e) h
  refine ev_eq (loop_no l.length (fun i k => spec_GoodBlock.l0 k l (l.length : Int) (i : Int) a b l) _ false round (fun i hi hq => ?_) h) ?_
  ·have hq' : ¬ ((rdOf ByteArray.empty l (i : Int)).size : Int) ≤ 60 := fun h' => hq (decide_eq_true h')
   refine Ev.step (f := fun _ => some false) (fun k => ?_) (Ev.now _)
   simp only [spec_GoodBlock.l0]
   rw [if_pos (by omega), if_pos (by omega), if_pos (by omega), if_pos (by omega)]
  ·unfold blockB; rw [ha]; simp
theorem goodBlockI (a b : ByteArray) (l : List ByteArray) (hl : l.length ≤ 2000000) : Ev (fun k => impl_GoodBlock.f k a b l) (blockB a b l) := by
 unfold impl_GoodBlock.f blockB
 refine ev_const (isDigI a) ?_
 by_cases h1 : a.size = 4
 ·refine ev_pos (decide_eq_true h1) (ev_const (isDigI b) ?_)
  rw [decide_eq_true h1, Bool.true_and]
  by_cases h2 : b.size = 4
  ·refine ev_pos (decide_eq_true h2) ?_
   rw [decide_eq_true h2, Bool.true_and]
   by_cases h3 : l.length ≤ 6
   ·refine ev_pos (by omega) ?_
    rw [decide_eq_true h3, Bool.true_and]
    have e : ∀ s : ByteArray, decide ((s.size : Int) > 60) = !itemB s := by
     intro s
     unfold itemB
     by_cases hs : (s.size : Int) ≤ 60
     ·rw [decide_eq_true hs]; exact decide_eq_false (by omega)
     ·rw [decide_eq_false hs]; exact decide_eq_true (by omega)
    have hc := has_str l slices_IndexFunc_impl_GoodBlock_1.l0 (fun _ s => impl_GoodBlock_1.f s) (fun s => !itemB s) (fun k n i => rfl) (fun x _ => ev_of_eq (by unfold impl_GoodBlock_1.f; rw [e])) (by omega)
    rw [not_any] at hc
    refine ev_eq (ev_bind (f := fun _ t => some (!t)) (g := fun k => slices_ContainsFunc_impl_GoodBlock_1.f k l) hc (Ev.now _)) ?_
    rw [Bool.not_not]
   ·rw [decide_eq_false h3]; exact ev_neg (by omega) (Ev.now _)
  ·rw [decide_eq_false h2]; exact ev_neg (by simp) (Ev.now _)
 ·rw [decide_eq_false h1]; exact ev_neg (by simp) (Ev.now _)
theorem app_assoc (a b c : ByteArray) : a ++ b ++ c = a ++ (b ++ c) := ByteArray.append_assoc
theorem rowFrom_app (l : List ByteArray) : ∀ acc, rowFrom acc l = acc ++ rowM l := by
 induction l with
 | nil => intro acc; exact (ByteArray.append_empty (b := acc)).symm
 | cons s l ih =>
  intro acc
  rw [show rowFrom acc (s :: l) = rowFrom (acc ++ (one (s.size : Int) ++ s)) l from rfl, ih, show rowM (s :: l) = rowFrom (⟨#[]⟩ ++ (one (s.size : Int) ++ s)) l from rfl, ih]
  rw [show (⟨#[]⟩ : ByteArray) ++ (one (s.size : Int) ++ s) = one (s.size : Int) ++ s from ByteArray.empty_append, app_assoc]
theorem total_items (l : List ByteArray) (h : l.all itemB = true) : total l ≤ 61 * l.length := by
 induction l with
 | nil => simp [total, szL]
 | cons s l ih =>
  simp only [List.all_cons, Bool.and_eq_true] at h
  have h1 : (s.size : Int) ≤ 60 := of_decide_eq_true h.1
  have := ih h.2
  simp only [total, szL, List.length_cons] at this ⊢
  omega
def blockM (a b : ByteArray) (l : List ByteArray) : ByteArray := a ++ b ++ rowM l
theorem blockB_facts {a b : ByteArray} {l : List ByteArray} (h : blockB a b l = true) : a.size = 4 ∧ b.size = 4 ∧ l.length ≤ 6 ∧ total l ≤ 366 := by
 unfold blockB at h
 simp only [Bool.and_eq_true, decide_eq_true_eq] at h
 have := total_items l h.2.2.2
 exact ⟨h.1, h.2.1, h.2.2.1, by omega⟩
theorem blockM_size {a b : ByteArray} {l : List ByteArray} (h : blockB a b l = true) : (blockM a b l).size ≤ 374 := by
 obtain ⟨h1, h2, h3, h4⟩ := blockB_facts h
 unfold blockM
 rw [app_size, app_size, rowM_size]; omega
theorem bytesBS (a b : ByteArray) (l : List ByteArray) (h : blockB a b l = true) : Ev (fun k => spec_l16Bytes.f k a b l) (blockM a b l) := by
 obtain ⟨h1, h2, h3, h4⟩ := blockB_facts h
 exact ev_pos (by omega) (ev_bind (rowS l (by omega)) (ev_pos (by rw [app_size, rowM_size]; omega) (Ev.now _)))
theorem bytesBI (a b : ByteArray) (l : List ByteArray) (h : blockB a b l = true) : Ev (fun k => impl_Block_bytes.f k a b l) (blockM a b l) := by
 obtain ⟨h1, h2, h3, h4⟩ := blockB_facts h
 refine ev_pos (by omega) ?_
 have key : ∀ (d i : Nat) (acc : ByteArray), i + d = l.length → acc.size + total (l.drop i) ≤ 2000 → Ev (fun k => impl_Block_bytes.l0 k acc l (l.length : Int) (i : Int)) (rowFrom acc (l.drop i)) := by
  intro d
  induction d with
  | zero =>
   intro i acc hi _
   rw [List.drop_eq_nil_of_le (by omega)]
   refine Ev.step (f := fun _ => some acc) (fun k => ?_) (Ev.now _)
   simp only [impl_Block_bytes.l0]; rw [if_neg (by omega)]
  | succ d ih =>
   intro i acc hi ha
   have hlt : i < l.length := by omega
   rw [List.drop_eq_getElem_cons hlt] at ha ⊢
   have e : total (l[i] :: l.drop (i + 1)) = 1 + l[i].size + total (l.drop (i + 1)) := by simp only [total, szL, List.length_cons]; omega
   rw [e] at ha
   refine Ev.step (f := fun k => impl_Block_bytes.l0 k (acc ++ (one (l[i].size : Int) ++ l[i])) l (l.length : Int) ((i + 1 : Nat) : Int)) (fun k => ?_) ?_
   ·simp only [impl_Block_bytes.l0]
    rw [if_pos (by omega), if_pos (by omega), if_pos (by omega), rdOf_at _ _ _ hlt, oneI, w64 (x := (i : Int) + 1) (by omega) (by omega)]
    simp only [Option.bind_some]
    rw [if_pos (by rw [one_size]; omega), if_pos (by rw [app_size, one_size]; omega)]
    rfl
   ·exact ih (i + 1) _ (by omega) (by rw [app_size, app_size, one_size]; omega)
 have := key l.length 0 (a ++ b) (by omega) (by rw [List.drop_zero, app_size]; omega)
 rw [List.drop_zero, rowFrom_app] at this
 exact this
theorem k104 : Kd_ 104 := ⟨by decide, by decide⟩
theorem digBS (a b : ByteArray) (l : List ByteArray) (h : blockB a b l = true) : Ev (fun k => spec_l16Digest.f k a b l) (dig 104 (blockM a b l)) := by
 have := blockM_size h
 exact ev_bind (bytesBS a b l h) (ev_bind (digS 104 k104 _ (by omega)) (Ev.now _))
theorem digBI (a b : ByteArray) (l : List ByteArray) (h : blockB a b l = true) : Ev (fun k => impl_Block_digest.f k a b l) (dig 104 (blockM a b l)) := by
 have := blockM_size h
 exact ev_bind (bytesBI a b l h) (ev_bind (digI 104 k104 _ (by omega)) (Ev.now _))
end Go.Proofs.Ythhkkhnjkoacnaa.PX
end
section
namespace Go.Proofs.Ythhkkhnjkoacnaa.PY
open Go.RowKit Go.Proofs.YthhkkhnjkoacnaaW.PrintWords Go.Proofs.YthhkkhnjkoacnaaW.PrintLast Go.Proofs.YthhkkhnjkoacnaaW.PrintMore Go.Proofs.Ythhkkhnjkoacnaa.PB Go.Proofs.Ythhkkhnjkoacnaa.PD Go.Proofs.Ythhkkhnjkoacnaa.PK Go.Proofs.Ythhkkhnjkoacnaa.PL Go.Proofs.Ythhkkhnjkoacnaa.PS Go.Proofs.Ythhkkhnjkoacnaa.PT Go.Proofs.Ythhkkhnjkoacnaa.PU Go.Proofs.Ythhkkhnjkoacnaa.PG Go.Proofs.Ythhkkhnjkoacnaa.PQ Go.Proofs.Ythhkkhnjkoacnaa.PW Go.Proofs.Ythhkkhnjkoacnaa.PX Go.Proofs.Ythhkkhnjkoacnaa.PA
set_option linter.unusedVariables false
theorem rdI_at (l : List S89) (i : Nat) (h : i < l.length) : rd_T89 l (i : Int) = l[i] := by
 simp [rd_T89, List.getD_eq_getElem?_getD, List.getElem?_eq_getElem h]
def blkB (x : S89) : Bool := blockB x.f0 x.f1 x.f2
def blkM (x : S89) : ByteArray := dig 104 (blockM x.f0 x.f1 x.f2)
def Sm (x : S89) : Prop := x.f2.length ≤ 2000000
def chainOk (l : List S89) : Bool := decide ((l.length : Int) ≤ 12) && l.all blkB
theorem allS (l : List S89) (hl : l.length ≤ 2000000) (hs : ∀ x ∈ l, Sm x) : Ev (fun k => spec_l16All.f k l) (chainOk l) := by
 have key : ∀ (d i : Nat), i + d = l.length → Ev (fun k => spec_l16All.l0 k l l (l.length : Int) (i : Int)) (decide ((l.length : Int) ≤ 12) && (l.drop i).all blkB) := by
  intro d
  induction d with
  | zero =>
   intro i hi
   rw [List.drop_eq_nil_of_le (by omega), List.all_nil, Bool.and_true]
   refine Ev.step (f := fun _ => some (decide ((l.length : Int) ≤ 12))) (fun k => ?_) (Ev.now _)
   simp only [spec_l16All.l0]; rw [if_neg (by omega)]
  | succ d ih =>
   intro i hi
   have hlt : i < l.length := by omega
   rw [List.drop_eq_getElem_cons hlt, List.all_cons]
   refine Ev.step (f := fun k => (spec_GoodBlock.f k l[i].f0 l[i].f1 l[i].f2).bind fun t => if t = true then spec_l16All.l0 k l l (l.length : Int) ((i + 1 : Nat) : Int) else some false) (fun k => ?_) ?_
   ·simp only [spec_l16All.l0]
    rw [if_pos (by omega), if_pos (by omega), if_pos (by omega), rdI_at l i hlt, w64 (x := (i : Int) + 1) (by omega) (by omega)]
    rfl
   ·refine ev_bind (goodBlockS _ _ _ (hs _ (List.getElem_mem hlt))) ?_
    show Ev _ (decide ((l.length : Int) ≤ 12) && (blkB l[i] && _))
    unfold blkB
    cases hb : blockB l[i].f0 l[i].f1 l[i].f2 with
    | true => rw [Bool.true_and]; exact ev_pos rfl (ih (i + 1) (by omega))
    | false => rw [Bool.false_and, Bool.and_false]; exact ev_neg (by simp) (Ev.now _)
 exact key l.length 0 (by omega)
theorem allI (l : List S89) (hl : l.length ≤ 2000000) (hs : ∀ x ∈ l, Sm x) : Ev (fun k => impl_areBlocks.f k l) (chainOk l) := by
 unfold chainOk impl_areBlocks.f
 by_cases h : (l.length : Int) ≤ 12
 ·refine ev_pos h ?_
  rw [decide_eq_true h, Bool.true_and]
  obtain ⟨r, hr, e⟩ := idx_any l rd_T89 (fun i h => rdI_at l i h) slices_IndexFunc_impl_areBlocks_1.l0 (fun k x => impl_areBlocks_1.f k x.f0 x.f1 x.f2) (fun x => !blkB x) (fun k n i => rfl) (fun x hx => ev_bind (f := fun _ t => some (!t)) (goodBlockI _ _ _ (hs x hx)) (Ev.now _)) (by omega)
  have hc : Ev (fun k => slices_ContainsFunc_impl_areBlocks_1.f k l) (l.any fun x => !blkB x) := by
   rw [← e]
   exact ev_bind (f := fun _ t => some (decide (t ≥ 0))) hr (Ev.now _)
  refine ev_eq (ev_bind (f := fun _ t => some (!t)) hc (Ev.now _)) ?_
  rw [not_any, Bool.not_not]
 ·refine ev_neg h ?_
  rw [decide_eq_false h]
  exact Ev.now _
theorem chain_len {l : List S89} (h : chainOk l = true) : l.length ≤ 12 := by
 unfold chainOk at h
 simp only [Bool.and_eq_true, decide_eq_true_eq] at h
 omega
theorem chain_at {l : List S89} (h : chainOk l = true) (i : Nat) (hi : i < l.length) : blkB l[i] = true := by
 unfold chainOk at h
 simp only [Bool.and_eq_true] at h
 exact List.all_eq_true.1 h.2 _ (List.getElem_mem hi)
def lastM (l : List S89) : ByteArray := if l.length = 0 then ⟨#[0, 0, 0, 0]⟩ else blkM (rd_T89 l ((l.length - 1 : Nat) : Int))
theorem lastM_at (l : List S89) (n : Nat) (hl : l.length = n + 1) : lastM l = blkM (l[n]'(by omega)) := by
 unfold lastM
 rw [if_neg (by omega), show l.length - 1 = n by omega, rdI_at l n (by omega)]
theorem last_two (l : List S89) (h : ∀ x ∈ l, blkB x = true) (hl : l.length ≤ 2000000) : Ev (fun k => spec_l16Last.f k l) (lastM l) ∧ Ev (fun k => impl_lastDigest.f k l) (lastM l) := by
 by_cases h0 : l.length = 0
 ·unfold lastM
  rw [if_pos h0]
  exact ⟨ev_pos (by omega) (Ev.now _), ev_pos (by omega) (Ev.now _)⟩
 ·obtain ⟨n, hn⟩ : ∃ n, l.length = n + 1 := ⟨l.length - 1, by omega⟩
  have hb : blockB (l[n]'(by omega)).f0 (l[n]'(by omega)).f1 (l[n]'(by omega)).f2 = true := h _ (List.getElem_mem (by omega))
  have e : wrap64 ((l.length : Int) - 1) = (n : Int) := by rw [w64 (by omega) (by omega)]; omega
  rw [lastM_at l n hn]
  constructor
  ·unfold spec_l16Last.f
   rw [e, rdI_at l n (by omega)]
   exact ev_neg (by omega) (ev_pos (by omega) (ev_pos (by omega) (ev_bind (digBS _ _ _ hb) (Ev.now _))))
  ·unfold impl_lastDigest.f
   rw [e, rdI_at l n (by omega)]
   exact ev_neg (by omega) (ev_pos (by omega) (ev_pos (by omega) (ev_bind (digBI _ _ _ hb) (Ev.now _))))
theorem goodChain_two (l : List S89) (hl : l.length ≤ 2000000) (hs : ∀ x ∈ l, Sm x) : ∃ r, Ev (fun k => spec_GoodChain.f k l) r ∧ Ev (fun k => impl_GoodChain.f k l) r := by
 have hS := allS l hl hs
 have hI := allI l hl hs
 cases h : chainOk l with
 | false =>
  rw [h] at hS hI
  exact ⟨false, ev_bind hS (ev_neg (by simp) (Ev.now _)), ev_bind hI (ev_neg (by simp) (Ev.now _))⟩
 | true =>
  rw [h] at hS hI
  have key : ∀ (d i : Nat), i + d = l.length → ∃ r, Ev (fun k => spec_GoodChain.l0 k l l (l.length : Int) (i : Int)) r ∧ Ev (fun k => impl_GoodChain.l0 k l l (l.length : Int) (i : Int)) r := by
   intro d
   induction d with
   | zero =>
    intro i hi
    exact ⟨true, Ev.step (f := fun _ => some true) (fun k => by simp only [spec_GoodChain.l0]; rw [if_neg (by omega)]) (Ev.now _), Ev.step (f := fun _ => some true) (fun k => by simp only [impl_GoodChain.l0]; rw [if_neg (by omega)]) (Ev.now _)⟩
   | succ d ih =>
    intro i hi
    have hlt : i < l.length := by omega
    obtain ⟨r, h1, h2⟩ := ih (i + 1) (by omega)
    have ht : ∀ x ∈ l.take i, blkB x = true := fun x hx => by
     obtain ⟨j, hj, e⟩ := List.getElem_of_mem (List.mem_of_mem_take hx)
     rw [← e]; exact chain_at h j hj
    obtain ⟨t1, t2⟩ := last_two (l.take i) ht (by rw [List.length_take]; omega)
    have s1 : ∀ {r : Bool}, Ev (fun k => (spec_l16Last.f k (l.take i)).bind fun t => if l[i].f0.toList = t.toList then spec_GoodChain.l0 k l l (l.length : Int) ((i + 1 : Nat) : Int) else some false) r → Ev (fun k => spec_GoodChain.l0 k l l (l.length : Int) (i : Int)) r := by
     intro r hr
     refine Ev.step (fun k => ?_) hr
     simp only [spec_GoodChain.l0]
     rw [if_pos (by omega), if_pos (by omega), if_pos (by omega), if_pos (by omega), rdI_at l i hlt, w64 (x := (i : Int) + 1) (by omega) (by omega)]
     rfl
    have s2 : ∀ {r : Bool}, Ev (fun k => (impl_lastDigest.f k (l.take i)).bind fun t => if l[i].f0.toList = t.toList then impl_GoodChain.l0 k l l (l.length : Int) ((i + 1 : Nat) : Int) else some false) r → Ev (fun k => impl_GoodChain.l0 k l l (l.length : Int) (i : Int)) r := by
     intro r hr
     refine Ev.step (fun k => ?_) hr
     simp only [impl_GoodChain.l0]
     rw [if_pos (by omega), if_pos (by omega), if_pos (by omega), if_pos (by omega), rdI_at l i hlt, w64 (x := (i : Int) + 1) (by omega) (by omega)]
     rfl
    by_cases hc : l[i].f0.toList = (lastM (l.take i)).toList
    ·exact ⟨r, s1 (ev_bind t1 (ev_pos hc h1)), s2 (ev_bind t2 (ev_pos hc h2))⟩
    ·exact ⟨false, s1 (ev_bind t1 (ev_neg hc (Ev.now _))), s2 (ev_bind t2 (ev_neg hc (Ev.now _)))⟩
  obtain ⟨r, h1, h2⟩ := key l.length 0 (by omega)
  exact ⟨r, ev_bind hS (ev_pos rfl h1), ev_bind hI (ev_pos rfl h2)⟩
theorem chain_imp (l : List S89) (hl : l.length ≤ 2000000) (hs : ∀ x ∈ l, Sm x) (h : Ev (fun k => impl_GoodChain.f k l) true) : chainOk l = true := by
 cases e : chainOk l with
 | true => rfl
 | false =>
  have hI := allI l hl hs
  rw [e] at hI
  exact ev_unique (ev_bind (f := fun k t => if t = true then (impl_GoodChain.l0 k l l (l.length : Int) 0) else (some false)) hI (ev_neg (by simp) (Ev.now _))) h
theorem chain_mem {l : List S89} (hc : chainOk l = true) : ∀ x ∈ l, blkB x = true := fun x hx => by
 obtain ⟨j, hj, e⟩ := List.getElem_of_mem hx
 rw [← e]; exact chain_at hc j hj
end Go.Proofs.Ythhkkhnjkoacnaa.PY
end
section
namespace Go.Proofs.Ythhkkhnjkoacnaa.QA
open Go.RowKit Go.Proofs.YthhkkhnjkoacnaaW.PrintWords Go.Proofs.YthhkkhnjkoacnaaW.PrintLast Go.Proofs.YthhkkhnjkoacnaaW.PrintMore Go.Proofs.Ythhkkhnjkoacnaa.PB Go.Proofs.Ythhkkhnjkoacnaa.PD Go.Proofs.Ythhkkhnjkoacnaa.PU Go.Proofs.Ythhkkhnjkoacnaa.PL Go.Proofs.Ythhkkhnjkoacnaa.PG Go.Proofs.Ythhkkhnjkoacnaa.PW Go.Proofs.Ythhkkhnjkoacnaa.PX Go.Proofs.Ythhkkhnjkoacnaa.PY Go.Proofs.Ythhkkhnjkoacnaa.PA
set_option linter.unusedVariables false
def zero4 : ByteArray := ⟨#[0, 0, 0, 0]⟩
abbrev bk (l : List S89) (i : Nat) : S89 := rd_T89 l (i : Int)
theorem bk_at (l : List S89) (i : Nat) (h : i < l.length) : bk l i = l[i] := PY.rdI_at l i h
def LinkAt (l : List S89) (i : Nat) : Prop := (i = 0 → (bk l i).f0 = zero4) ∧ (0 < i → (bk l i).f0 = blkM (bk l (i - 1)))
def Linked (l : List S89) : Prop := chainOk l = true ∧ ∀ i, i < l.length → LinkAt l i
theorem lastM_bk (l : List S89) (h : 0 < l.length) : lastM l = blkM (bk l (l.length - 1)) := by
 unfold lastM
 rw [if_neg (by omega)]
theorem lastM_take (l : List S89) (i : Nat) (h : i < l.length) : LinkAt l i ↔ (bk l i).f0 = lastM (l.take i) := by
 unfold LinkAt
 by_cases h0 : i = 0
 ·subst h0
  have : lastM (l.take 0) = zero4 := by unfold lastM; rw [if_pos (by simp)]; rfl
  rw [this]
  exact ⟨fun h => h.1 rfl, fun h => ⟨fun _ => h, fun h => absurd h (by omega)⟩⟩
 ·have e : lastM (l.take i) = blkM (bk l (i - 1)) := by
   rw [lastM_at (l.take i) (i - 1) (by rw [List.length_take]; omega), bk_at l (i - 1) (by omega), List.getElem_take]
  rw [e]
  exact ⟨fun h => h.2 (by omega), fun h => ⟨fun h1 => absurd h1 h0, fun _ => h⟩⟩
theorem goodChainI (l : List S89) (hl : l.length ≤ 2000000) (hs : ∀ x ∈ l, Sm x) : Ev (fun k => impl_GoodChain.f k l) (ch (Linked l)) := by
 have hI := allI l hl hs
 cases h : chainOk l with
 | false =>
  rw [h] at hI
  exact ev_bind hI (ev_neg (by simp) (ev_eq (Ev.now _) (ch_no (fun e => by rw [e.1] at h; cases h)).symm))
 | true =>
  rw [h] at hI
  refine ev_bind hI (ev_pos rfl ?_)
  have one : ∀ {r : Bool} (i : Nat) (hi : i < l.length), Ev (fun k => if l[i].f0.toList = (lastM (l.take i)).toList then impl_GoodChain.l0 k l l (l.length : Int) ((i + 1 : Nat) : Int) else some false) r → Ev (fun k => impl_GoodChain.l0 k l l (l.length : Int) (i : Int)) r := by
   intro r i hi hr
   have ht : ∀ x ∈ l.take i, blkB x = true := fun x hx => by
    obtain ⟨j, hj, e⟩ := List.getElem_of_mem (List.mem_of_mem_take hx)
    rw [← e]; exact chain_at h j hj
   obtain ⟨_, t2⟩ := last_two (l.take i) ht (by rw [List.length_take]; omega)
   refine Ev.step (f := fun k => (impl_lastDigest.f k (l.take i)).bind fun t => if l[i].f0.toList = t.toList then impl_GoodChain.l0 k l l (l.length : Int) ((i + 1 : Nat) : Int) else some false) (fun k => ?_) (ev_bind t2 hr)
   simp only [impl_GoodChain.l0]
   rw [if_pos (by omega), if_pos (by omega), if_pos (by omega), if_pos (by omega), PY.rdI_at l i hi, w64 (x := (i : Int) + 1) (by omega) (by omega)]
   rfl
  have atq : ∀ i (hi : i < l.length), LinkAt l i ↔ l[i].f0.toList = (lastM (l.take i)).toList := by
   intro i hi
   rw [lastM_take l i hi, bk_at l i hi]
   exact ba_iff.symm
  by_cases hA : ∀ i, i < l.length → LinkAt l i
  ·rw [ch_yes (show Linked l from ⟨h, hA⟩)]
   exact loop_yes l.length (fun i k => impl_GoodChain.l0 k l l (l.length : Int) (i : Int)) (fun i => LinkAt l i) true (fun r i hi hq hr => one i hi (ev_pos ((atq i hi).1 hq) hr)) (Ev.step (f := fun _ => some true) (fun k => by simp only [impl_GoodChain.l0]; rw [if_neg (by omega)]) (Ev.now _)) hA
  ·rw [ch_no (fun e : Linked l => hA e.2)]
   exact loop_no l.length (fun i k => impl_GoodChain.l0 k l l (l.length : Int) (i : Int)) (fun i => LinkAt l i) false (fun r i hi hq hr => one i hi (ev_pos ((atq i hi).1 hq) hr)) (fun i hi hq => one i hi (ev_neg (fun e => hq ((atq i hi).2 e)) (Ev.now _))) hA
theorem goodChainS (l : List S89) (hl : l.length ≤ 2000000) (hs : ∀ x ∈ l, Sm x) : Ev (fun k => spec_GoodChain.f k l) (ch (Linked l)) := by
 obtain ⟨r, h1, h2⟩ := goodChain_two l hl hs
 rw [ev_unique (goodChainI l hl hs) h2]
 exact h1
noncomputable def lastDigestM (l : List S89) : ByteArray × Bool := if ch (Linked l) = true then (lastM l, true) else (⟨#[]⟩, false)
theorem lastDigestI (l : List S89) (hl : l.length ≤ 2000000) (hs : ∀ x ∈ l, Sm x) : Ev (fun k => impl_LastDigest.f k l) (lastDigestM l) := by
 unfold lastDigestM
 cases h : ch (Linked l) with
 | true =>
  have hc := ch_true h
  have := goodChainI l hl hs
  rw [h] at this
  exact ev_bind this (ev_pos rfl (ev_bind (last_two l (chain_mem hc.1) hl).2 (Ev.now _)))
 | false =>
  have := goodChainI l hl hs
  rw [h] at this
  exact ev_bind this (ev_neg (by simp) (Ev.now _))
theorem lastDigestS (l : List S89) (hl : l.length ≤ 2000000) (hs : ∀ x ∈ l, Sm x) : Ev (fun k => spec_LastDigest.f k l) (lastDigestM l) := by
 unfold lastDigestM
 cases h : ch (Linked l) with
 | true =>
  have hc := ch_true h
  have := goodChainS l hl hs
  rw [h] at this
  exact ev_bind this (ev_pos rfl (ev_bind (last_two l (chain_mem hc.1) hl).1 (Ev.now _)))
 | false =>
  have := goodChainS l hl hs
  rw [h] at this
  exact ev_bind this (ev_neg (by simp) (Ev.now _))
noncomputable def putBlockM (l : List S89) (a : ByteArray) (m : List ByteArray) : List S89 × Bool :=
 if ch (Linked l) = true then (if blockB zero4 a m = true ∧ l.length ≠ 12 then (l ++ [⟨lastM l, a, m⟩], true) else ([], false)) else ([], false)
theorem ownS (l : List S89) (hl : l.length ≤ 2000000) (hs : ∀ x ∈ l, Sm x) : Ev (fun k => spec_l16Own.f k l) l := by
 have key : ∀ (d i : Nat), i + d = l.length → Ev (fun k => spec_l16Own.l0 k (l.take i) l (l.length : Int) (i : Int)) l := by
  intro d
  induction d with
  | zero =>
   intro i hi
   refine Ev.step (f := fun _ => some (l.take i)) (fun k => by simp only [spec_l16Own.l0]; rw [if_neg (by omega)]) (ev_eq (Ev.now _) ?_)
   exact List.take_of_length_le (by omega)
  | succ d ih =>
   intro i hi
   have hlt : i < l.length := by omega
   have hsm : l[i].f2.length ≤ 2000000 := hs _ (List.getElem_mem hlt)
   have e : l.take i ++ [(⟨l[i].f0, l[i].f1, [] ++ l[i].f2⟩ : S89)] = l.take (i + 1) := by
    rw [List.take_succ_eq_append_getElem hlt]
    rfl
   refine Ev.step (f := fun k => spec_l16Own.l0 k (l.take (i + 1)) l (l.length : Int) ((i + 1 : Nat) : Int)) (fun k => ?_) (ih (i + 1) (by omega))
   simp only [spec_l16Own.l0]
   rw [if_pos (by omega), if_pos (by omega), if_pos (by omega), PY.rdI_at l i hlt]
   simp only [Option.bind_some]
   rw [if_pos (by simp only [List.length_nil]; omega), if_pos (by rw [List.length_take]; omega), w64 (x := (i : Int) + 1) (by omega) (by omega), e]
   rfl
 exact key l.length 0 (by omega)
theorem putBlockS (l : List S89) (a : ByteArray) (m : List ByteArray) (hl : l.length ≤ 2000000) (hs : ∀ x ∈ l, Sm x) (hm : m.length ≤ 2000000) : Ev (fun k => spec_PutBlock.f k l a m) (putBlockM l a m) := by
 have hg := goodChainS l hl hs
 have hb := goodBlockS ⟨#[0, 0, 0, 0]⟩ a m hm
 have no : Ev (fun k => spec_PutBlock.j0 k l true ⟨#[0, 0, 0, 0]⟩ a m) ([], false) := Ev.step (f := fun _ => some ([], false)) (fun k => by simp only [spec_PutBlock.j0]; rw [if_pos trivial]) (Ev.now _)
 unfold putBlockM
 refine ev_const (a := []) rfl (ev_pos (by simp only [List.length_nil]; omega) (ev_const (a := m) rfl (ev_bind hg ?_)))
 cases h : ch (Linked l) with
 | false => exact ev_neg (by simp) no
 | true =>
  have hc := ch_true h
  refine ev_pos rfl (ev_bind hb ?_)
  cases h2 : blockB ⟨#[0, 0, 0, 0]⟩ a m with
  | false =>
   rw [if_pos rfl, if_neg (fun e => by rw [show zero4 = ⟨#[0, 0, 0, 0]⟩ from rfl, h2] at e; cases e.1)]
   exact ev_neg (by simp) no
  | true =>
   refine ev_pos rfl ?_
   by_cases h3 : l.length = 12
   ·rw [if_pos rfl, if_neg (fun e => e.2 h3), show ((l.length : Int) == 12) = true from beq_iff_eq.2 (by omega)]
    exact no
   ·rw [if_pos rfl, if_pos ⟨h2, h3⟩, show ((l.length : Int) == 12) = false from beq_eq_false_iff_ne.2 (by omega)]
    refine Ev.step (f := fun k => _) (fun k => by simp only [spec_PutBlock.j0]; rfl) ?_
    have hn := chain_len hc.1
    exact ev_neg (by simp) (ev_bind (last_two l (chain_mem hc.1) hl).1 (ev_bind (ownS l hl hs) (ev_const rfl (ev_pos (by simp only [List.length_cons, List.length_nil]; omega) (Ev.now _)))))
end Go.Proofs.Ythhkkhnjkoacnaa.QA
end
section
namespace Go.Proofs.Ythhkkhnjkoacnaa.PC
open Go.RowKit Go.Proofs.YthhkkhnjkoacnaaW.PrintWords Go.Proofs.YthhkkhnjkoacnaaW.PrintLast Go.Proofs.YthhkkhnjkoacnaaW.PrintMore Go.Proofs.Ythhkkhnjkoacnaa.PB Go.Proofs.Ythhkkhnjkoacnaa.PL Go.Proofs.Ythhkkhnjkoacnaa.PA
set_option linter.unusedVariables false
def Bys (c : List Int) : Prop := ∀ x ∈ c, 0 ≤ x ∧ x ≤ 255
theorem code_of (c : List Int) (h : ∀ x ∈ c, (Lit.int .u8 x).wf = true) : Bys c := by
 intro x hx
 have := h x hx
 simp [Lit.wf] at this
 have e1 : IntKind.u8.min = 0 := rfl
 have e2 : IntKind.u8.max = 255 := rfl
 rw [e1, e2] at this
 omega
theorem code_at {c : List Int} (h : Bys c) (i : Int) : 0 ≤ rd c i ∧ rd c i ≤ 255 := by
 unfold rd
 rw [List.getD_eq_getElem?_getD]
 cases e : c[i.toNat]? with
 | none => simp
 | some x => exact h x (List.mem_of_getElem? e)
theorem wrap_u64 (n : Int) : IntKind.u64.wrap n = n % 18446744073709551616 := by simp [IntKind.wrap, IntKind.bits, IntKind.signed]
theorem and255 (x : Int) (h0 : 0 ≤ x) (h1 : x < 16777216) : 0 ≤ wrap64 (Go.bits .and .u64 x 255) ∧ wrap64 (Go.bits .and .u64 x 255) ≤ 255 := by
 have h := Go.bits_mask .u64 24 (by decide) (fun n a b => by rw [wrap_u64]; omega) 8 (by decide) x h0 (by omega)
 have e : ((2 : Int) ^ 8 - 1) = 255 := by decide
 rw [e] at h
 rw [h, w64 (by omega) (by omega)]
 omega
def Drawn {α : Type} (i : Int) (K : Int) (o : Option (α × Int × Int)) (P : α → Prop) : Prop := ∃ v i' s', o = some (v, i', s') ∧ P v ∧ i ≤ i' ∧ i' ≤ i + K
theorem next_d {c : List Int} (hc : Bys c) (i s : Int) (h0 : 0 ≤ i) (h1 : i ≤ 1000000000000) : Drawn i 1 (spec_l1Cur_next.f c i s) (fun v => 0 ≤ v ∧ v ≤ 255) := by
 have e : wrap64 (i + 1) = i + 1 := w64 (by omega) (by omega)
 have hr := code_at hc i
 have hv : wrap64 (rd c i) = rd c i := w64 (by omega) (by omega)
 unfold spec_l1Cur_next.f
 rw [e]
 by_cases hi : i < (c.length : Int)
 ·rw [if_pos hi, if_pos h0, if_pos (by omega)]
  exact ⟨_, _, _, rfl, by rw [hv]; exact hr, by omega, by omega⟩
 ·rw [if_neg hi, if_neg (by omega)]
  refine ⟨_, _, _, rfl, and255 _ ?_ ?_, by omega, by omega⟩
  ·rw [wrap_u64]; omega
  ·rw [wrap_u64]; omega
theorem pick_d {c : List Int} (hc : Bys c) (i s n : Int) (h0 : 0 ≤ i) (h1 : i ≤ 100000000000) (hn : n ≤ 1000000000) : Drawn i 2 (spec_l1Cur_pick.f c i s n) (fun v => 0 ≤ v ∧ (v < n ∨ v = 0)) := by
 unfold spec_l1Cur_pick.f
 by_cases c1 : n ≤ 1
 ·rw [if_pos c1]
  exact ⟨0, i, s, rfl, ⟨by omega, Or.inr rfl⟩, by omega, by omega⟩
 ·rw [if_neg c1]
  obtain ⟨v, i', s', e, hv, hi1, hi2⟩ := next_d hc i s h0 (by omega)
  rw [e]
  simp only [Option.bind_some]
  by_cases c2 : n > 200
  ·rw [if_pos c2]
   obtain ⟨v2, i2, s2, e2, hv2, hi3, hi4⟩ := next_d hc i' s' (by omega) (by omega)
   rw [e2]
   simp only [Option.bind_some]
   rw [if_neg (by omega), w64 (x := v * 256) (by omega) (by omega), w64 (x := v * 256 + v2) (by omega) (by omega), Int.tmod_eq_emod_of_nonneg (by omega)]
   exact ⟨_, _, _, rfl, ⟨Int.emod_nonneg _ (by omega), Or.inl (Int.emod_lt_of_pos _ (by omega))⟩, by omega, by omega⟩
  ·rw [if_neg c2, if_neg (by omega), Int.tmod_eq_emod_of_nonneg (by omega)]
   exact ⟨_, _, _, rfl, ⟨Int.emod_nonneg _ (by omega), Or.inl (Int.emod_lt_of_pos _ (by omega))⟩, by omega, by omega⟩
theorem of_d {c : List Int} (hc : Bys c) (i s : Int) (l : List ByteArray) (h0 : 0 ≤ i) (h1 : i ≤ 100000000000) (hl : 1 ≤ l.length ∧ l.length ≤ 1000000000) : Drawn i 2 (spec_l1Cur_of.f c i s l) (fun v => v ∈ l) := by
 obtain ⟨v, i', s', e, hv, hi1, hi2⟩ := pick_d hc i s (l.length : Int) h0 h1 (by omega)
 unfold spec_l1Cur_of.f
 rw [e]
 simp only [Option.bind_some]
 rw [if_pos hv.1, if_pos (by omega)]
 refine ⟨_, _, _, rfl, ?_, hi1, hi2⟩
 obtain ⟨n, rfl⟩ := Int.eq_ofNat_of_zero_le hv.1
 have hn : n < l.length := by omega
 rw [rdOf_at _ _ _ hn]
 exact List.getElem_mem hn
theorem one_d {c : List Int} (hc : Bys c) (i s n : Int) (h0 : 0 ≤ i) (h1 : i ≤ 100000000000) (hn : n ≤ 1000000000) : Drawn i 2 (spec_l1Cur_one.f c i s n) (fun _ => True) := by
 obtain ⟨v, i', s', e, hv, hi1, hi2⟩ := pick_d hc i s n h0 h1 hn
 unfold spec_l1Cur_one.f
 rw [e]
 exact ⟨_, _, _, rfl, trivial, hi1, hi2⟩
def DrawnE {α : Type} (i : Int) (K : Int) (f : Nat → Option (α × Int × Int)) (P : α → Prop) : Prop := ∃ v i' s', Ev f (v, i', s') ∧ P v ∧ i ≤ i' ∧ i' ≤ i + K
end Go.Proofs.Ythhkkhnjkoacnaa.PC
end
section
namespace Go.Proofs.Ythhkkhnjkoacnaa.QB
open Go.RowKit Go.Proofs.YthhkkhnjkoacnaaW.PrintWords Go.Proofs.YthhkkhnjkoacnaaW.PrintLast Go.Proofs.YthhkkhnjkoacnaaW.PrintMore Go.Proofs.Ythhkkhnjkoacnaa.PB Go.Proofs.Ythhkkhnjkoacnaa.PL Go.Proofs.Ythhkkhnjkoacnaa.PC Go.Proofs.Ythhkkhnjkoacnaa.PW Go.Proofs.Ythhkkhnjkoacnaa.PX Go.Proofs.Ythhkkhnjkoacnaa.PY Go.Proofs.Ythhkkhnjkoacnaa.QA Go.Proofs.Ythhkkhnjkoacnaa.PA
set_option linter.unusedVariables false
theorem items16_d {c : List Int} (hc : Bys c) (i s : Int) (h0 : 0 ≤ i) (h1 : i ≤ 10000000000) : DrawnE i 100 (fun k => spec_l1Cur_items16.f k c i s) (fun l => l.length ≤ 1000) := by
 have loop : ∀ (d : Nat) (l : List ByteArray) (i s : Int), l.length + d ≤ 1000 → 0 ≤ i → i + 2 * (d : Int) ≤ 20000000000 → ∃ l' i' s', Ev (fun k => spec_l1Cur_items16.l0 k l (d : Int) c i s) (l', i', s') ∧ l'.length ≤ 1000 ∧ i ≤ i' ∧ i' ≤ i + 2 * (d : Int) + 4 := by
  intro d
  induction d with
  | zero =>
   intro l i s hl h0 h1
   by_cases c1 : (l.length : Int) > 0
   ·obtain ⟨b, i2, s2, e2, _, h2, h3⟩ := one_d hc i s 20 h0 (by omega) (by omega)
    obtain ⟨v, i3, s3, e3, hv, h4, h5⟩ := pick_d hc i2 s2 2 (by omega) (by omega) (by omega)
    have w : wrap64 (60 + v) = 60 + v := w64 (by omega) (by omega)
    cases b with
    | true =>
     refine ⟨_, i3, s3, Ev.step (f := fun _ => some (l.set 0 (strOfNums (List.replicate (60 + v).toNat 0)), i3, s3)) (fun k => ?_) (Ev.now _), by rw [List.length_set]; omega, by omega, by omega⟩
     simp only [spec_l1Cur_items16.l0]
     rw [if_neg (by omega), if_pos c1, e2]
     simp only [Option.bind_some]
     rw [if_pos trivial, e3]
     simp only [Option.bind_some]
     rw [w, if_pos (by omega), if_pos (by omega), if_pos (by omega)]
     rfl
    | false =>
     refine ⟨l, i2, s2, Ev.step (f := fun _ => some (l, i2, s2)) (fun k => ?_) (Ev.now _), by omega, by omega, by omega⟩
     simp only [spec_l1Cur_items16.l0]
     rw [if_neg (by omega), if_pos c1, e2]
     simp only [Option.bind_some]
     rw [if_neg (by simp)]
   ·exact ⟨l, i, s, Ev.step (f := fun _ => some (l, i, s)) (fun k => by simp only [spec_l1Cur_items16.l0]; rw [if_neg (by omega), if_neg c1]) (Ev.now _), by omega, by omega, by omega⟩
  | succ d ih =>
   intro l i s hl h0 h1
   have wd : wrap64 (((d + 1 : Nat) : Int) - 1) = (d : Int) := by rw [w64 (by omega) (by omega)]; omega
   obtain ⟨v, i2, s2, e2, hv, h2, h3⟩ := of_d hc i s [(⟨#[]⟩ : ByteArray), (⟨#[112, 117, 116, 32, 97, 32, 49]⟩ : ByteArray), (⟨#[100, 114, 111, 112, 32, 98]⟩ : ByteArray), (⟨#[97, 99, 97]⟩ : ByteArray), (⟨#[98, 97, 98]⟩ : ByteArray)] h0 (by omega) (by decide)
   obtain ⟨l1, i5, s5, r1, z1, z2, z3⟩ := ih (l ++ [v]) i2 s2 (by rw [List.length_append]; simp only [List.length_cons, List.length_nil]; omega) (by omega) (by omega)
   refine ⟨l1, i5, s5, Ev.step (f := fun k => spec_l1Cur_items16.l0 k (l ++ [v]) (d : Int) c i2 s2) (fun k => ?_) r1, z1, by omega, by omega⟩
   simp only [spec_l1Cur_items16.l0]
   rw [if_pos (by omega), e2]
   simp only [Option.bind_some]
   rw [if_pos (by omega), wd]
 have go : ∀ (n : Int) (i s : Int), 0 ≤ n → n ≤ 20 → 0 ≤ i → i ≤ 10000000100 → ∃ l' i' s', Ev (fun k => spec_l1Cur_items16.j0 k [] n c i s) (l', i', s') ∧ l'.length ≤ 1000 ∧ i ≤ i' ∧ i' ≤ i + 50 := by
  intro n i s hn0 hn h0 h1
  obtain ⟨m, rfl⟩ := Int.eq_ofNat_of_zero_le hn0
  obtain ⟨l1, i5, s5, r1, z1, z2, z3⟩ := loop m [] i s (by simp only [List.length_nil]; omega) h0 (by omega)
  exact ⟨l1, i5, s5, Ev.step (f := fun k => spec_l1Cur_items16.l0 k [] ((m : Nat) : Int) c i s) (fun k => by simp only [spec_l1Cur_items16.j0]) r1, z1, z2, by omega⟩
 obtain ⟨n, i2, s2, e2, hn, h2, h3⟩ := pick_d hc i s 4 h0 (by omega) (by omega)
 obtain ⟨b, i3, s3, e3, _, h4, h5⟩ := one_d hc i2 s2 20 (by omega) (by omega) (by omega)
 cases b with
 | true =>
  obtain ⟨v, i4, s4, e4, hv, h6, h7⟩ := pick_d hc i3 s3 2 (by omega) (by omega) (by omega)
  have w : wrap64 (6 + v) = 6 + v := w64 (by omega) (by omega)
  obtain ⟨l1, i5, s5, r1, z1, z2, z3⟩ := go (6 + v) i4 s4 (by omega) (by omega) (by omega) (by omega)
  rw [← w] at r1
  exact ⟨l1, i5, s5, ev_const e2 (ev_const e3 (ev_pos rfl (ev_const e4 r1))), z1, by omega, by omega⟩
 | false =>
  obtain ⟨l1, i5, s5, r1, z1, z2, z3⟩ := go n i3 s3 (by omega) (by omega) (by omega) (by omega)
  exact ⟨l1, i5, s5, ev_const e2 (ev_const e3 (ev_neg (by simp) r1)), z1, by omega, by omega⟩
def Ch (l : List S89) : Prop := l.length ≤ 12 ∧ ∀ x ∈ l, x.f2.length ≤ 1000
theorem Ch.sm {l : List S89} (h : Ch l) : ∀ x ∈ l, Sm x := fun x hx => by have := h.2 x hx; show x.f2.length ≤ 2000000; omega
theorem ch_nil : Ch [] := ⟨by simp, fun x hx => by cases hx⟩
theorem ch_take {l : List S89} (h : Ch l) (n : Nat) : Ch (l.take n) := ⟨by rw [List.length_take]; have := h.1; omega, fun x hx => h.2 x (List.mem_of_mem_take hx)⟩
theorem ch_put {l : List S89} (h : Ch l) (a : ByteArray) (m : List ByteArray) (hm : m.length ≤ 1000) : Ch (putBlockM l a m).1 := by
 unfold putBlockM
 split
 ·split
  ·rename_i h2
   refine ⟨by show (l ++ _).length ≤ 12; rw [List.length_append]; simp only [List.length_cons, List.length_nil]; have := h.1; omega, fun x hx => ?_⟩
   rcases List.mem_append.1 hx with hx | hx
   ·exact h.2 x hx
   ·rw [List.mem_singleton.1 hx]; exact hm
  ·exact ch_nil
 ·exact ch_nil
theorem putS {l : List S89} (h : Ch l) (a : ByteArray) (m : List ByteArray) (hm : m.length ≤ 1000) : Ev (fun k => spec_PutBlock.f k l a m) (putBlockM l a m) := putBlockS l a m (by have := h.1; omega) h.sm (by omega)
theorem chain_d {c : List Int} (hc : Bys c) (i s : Int) (h0 : 0 ≤ i) (h1 : i ≤ 1000000000) : DrawnE i 5000 (fun k => spec_l1Cur_chain.f k c i s) Ch := by
 have loop : ∀ (d : Nat) (l : List S89) (i s : Int), Ch l → 0 ≤ i → i + 110 * (d : Int) ≤ 2000000000 → ∃ l' i' s', Ev (fun k => spec_l1Cur_chain.l0 k l (d : Int) c i s) (l', i', s') ∧ Ch l' ∧ i ≤ i' ∧ i' ≤ i + 110 * (d : Int) + 10 := by
  intro d
  induction d with
  | zero =>
   intro l i s hl h0 h1
   have hn := hl.1
   by_cases c1 : (l.length : Int) > 0
   ·obtain ⟨b, i2, s2, e2, _, h2, h3⟩ := one_d hc i s 12 h0 (by omega) (by omega)
    obtain ⟨v, i3, s3, e3, hv, h4, h5⟩ := pick_d hc i2 s2 (l.length : Int) (by omega) (by omega) (by omega)
    cases b with
    | true =>
     obtain ⟨n, rfl⟩ := Int.eq_ofNat_of_zero_le hv.1
     have hlt : n < l.length := by omega
     refine ⟨_, i3, s3, Ev.step (f := fun _ => some (l.set n ⟨(bk l n).f0, ⟨#[122, 122, 122, 122]⟩, (bk l n).f2⟩, i3, s3)) (fun k => ?_) (Ev.now _), ⟨by rw [List.length_set]; exact hn, fun x hx => ?_⟩, by omega, by omega⟩
     ·simp only [spec_l1Cur_chain.l0]
      rw [if_neg (by omega), if_pos c1, e2]
      simp only [Option.bind_some]
      rw [if_pos trivial, e3]
      simp only [Option.bind_some]
      rw [if_pos (by omega), if_pos (by omega)]
      rfl
     ·rcases List.mem_or_eq_of_mem_set hx with hx | rfl
      ·exact hl.2 x hx
      ·show (bk l n).f2.length ≤ 1000
       rw [bk_at l n hlt]
       exact hl.2 _ (List.getElem_mem hlt)
    | false =>
     refine ⟨l, i2, s2, Ev.step (f := fun _ => some (l, i2, s2)) (fun k => ?_) (Ev.now _), hl, by omega, by omega⟩
     simp only [spec_l1Cur_chain.l0]
     rw [if_neg (by omega), if_pos c1, e2]
     simp only [Option.bind_some]
     rw [if_neg (by simp)]
   ·exact ⟨l, i, s, Ev.step (f := fun _ => some (l, i, s)) (fun k => by simp only [spec_l1Cur_chain.l0]; rw [if_neg (by omega), if_neg c1]) (Ev.now _), hl, by omega, by omega⟩
  | succ d ih =>
   intro l i s hl h0 h1
   have wd : wrap64 (((d + 1 : Nat) : Int) - 1) = (d : Int) := by rw [w64 (by omega) (by omega)]; omega
   obtain ⟨v, i2, s2, e2, hv, h2, h3⟩ := of_d hc i s [(⟨#[114, 114, 114, 114]⟩ : ByteArray), (⟨#[114, 111, 111, 116]⟩ : ByteArray), (⟨#[97, 98, 99]⟩ : ByteArray)] h0 (by omega) (by decide)
   obtain ⟨m, i3, s3, e3, hm, h4, h5⟩ := items16_d hc i2 s2 (by omega) (by omega)
   have hp := putS hl v m hm
   obtain ⟨l1, i5, s5, r1, z1, z2, z3⟩ := ih (putBlockM l v m).1 i3 s3 (ch_put hl v m hm) (by omega) (by omega)
   obtain ⟨l2, i6, s6, r2, y1, y2, y3⟩ := ih l i3 s3 hl (by omega) (by omega)
   have st : ∀ {r}, Ev (fun k => (spec_l1Cur_items16.f k c i2 s2).bind fun q => (spec_PutBlock.f k l v q.1).bind fun t => (if t.2 = true then (spec_l1Cur_chain.l0 k t.1 (d : Int) c q.2.1 q.2.2) else (spec_l1Cur_chain.l0 k l (d : Int) c q.2.1 q.2.2))) r → Ev (fun k => spec_l1Cur_chain.l0 k l ((d + 1 : Nat) : Int) c i s) r := fun h => Ev.step (fun k => by
    simp only [spec_l1Cur_chain.l0]
    rw [if_pos (by omega), e2, wd]
    rfl) h
   cases ho : (putBlockM l v m).2 with
   | true => exact ⟨l1, i5, s5, st (ev_bind e3 (ev_bind hp (ev_pos ho r1))), z1, by omega, by omega⟩
   | false => exact ⟨l2, i6, s6, st (ev_bind e3 (ev_bind hp (ev_neg (by simp [ho]) r2))), y1, by omega, by omega⟩
 have go : ∀ (n : Int) (i s : Int), 0 ≤ n → n ≤ 20 → 0 ≤ i → i ≤ 1000000100 → ∃ l' i' s', Ev (fun k => spec_l1Cur_chain.j0 k [] n c i s) (l', i', s') ∧ Ch l' ∧ i ≤ i' ∧ i' ≤ i + 4000 := by
  intro n i s hn0 hn h0 h1
  obtain ⟨m, rfl⟩ := Int.eq_ofNat_of_zero_le hn0
  obtain ⟨l1, i5, s5, r1, z1, z2, z3⟩ := loop m [] i s ch_nil h0 (by omega)
  exact ⟨l1, i5, s5, Ev.step (f := fun k => spec_l1Cur_chain.l0 k [] ((m : Nat) : Int) c i s) (fun k => by simp only [spec_l1Cur_chain.j0]) r1, z1, z2, by omega⟩
 obtain ⟨n, i2, s2, e2, hn, h2, h3⟩ := pick_d hc i s 6 h0 (by omega) (by omega)
 obtain ⟨b, i3, s3, e3, _, h4, h5⟩ := one_d hc i2 s2 20 (by omega) (by omega) (by omega)
 cases b with
 | true =>
  obtain ⟨l1, i5, s5, r1, z1, z2, z3⟩ := go 14 i3 s3 (by omega) (by omega) (by omega) (by omega)
  exact ⟨l1, i5, s5, ev_const e2 (ev_const e3 (ev_pos rfl r1)), z1, by omega, by omega⟩
 | false =>
  obtain ⟨l1, i5, s5, r1, z1, z2, z3⟩ := go n i3 s3 (by omega) (by omega) (by omega) (by omega)
  exact ⟨l1, i5, s5, ev_const e2 (ev_const e3 (ev_neg (by simp) r1)), z1, by omega, by omega⟩
theorem drawAudit {c : List Int} (hc : Bys c) : ∃ a l, Ev (fun k => spec_DrawAuditChain.f k c) (a, l) ∧ Ch l := by
 obtain ⟨l, i1, s1, e1, hl, h1, h2⟩ := chain_d hc 0 0 (by omega) (by omega)
 have hn := hl.1
 have hd := lastDigestS l (by omega) hl.sm
 obtain ⟨b, i2, s2, e2, _, h3, h4⟩ := one_d hc i1 s1 4 (by omega) (by omega) (by omega)
 have half : ∀ (a : ByteArray), ∃ l', Ev (fun k => (if (l.length : Int) > 0 then ((spec_l1Cur_one.f c i1 s1 4).bind fun t => (if t.1 = true then (if 0 ≤ (wrap64 ((l.length : Int) - 1)) then (if (wrap64 ((l.length : Int) - 1)) ≤ (l.length : Int) then (some (a, (l.take ((wrap64 ((l.length : Int) - 1)) : Int).toNat))) else (none)) else (none)) else (some (a, l)))) else (some (a, l)))) (a, l') ∧ Ch l' := by
  intro a
  by_cases c1 : (l.length : Int) > 0
  ·have w : wrap64 ((l.length : Int) - 1) = (l.length : Int) - 1 := w64 (by omega) (by omega)
   cases b with
   | true => exact ⟨_, ev_pos c1 (ev_const e2 (ev_pos rfl (ev_pos (by omega) (ev_pos (by omega) (Ev.now _))))), ch_take hl _⟩
   | false => exact ⟨l, ev_pos c1 (ev_const e2 (ev_neg (by simp) (Ev.now _))), hl⟩
  ·exact ⟨l, ev_neg c1 (Ev.now _), hl⟩
 cases hb : (lastDigestM l).2 with
 | true =>
  obtain ⟨l', r, z⟩ := half (lastDigestM l).1
  exact ⟨_, l', ev_bind e1 (ev_bind hd (ev_pos hb r)), z⟩
 | false =>
  obtain ⟨l', r, z⟩ := half ⟨#[108, 97, 115, 116]⟩
  exact ⟨_, l', ev_bind e1 (ev_bind hd (ev_neg (by simp [hb]) r)), z⟩
theorem drawClash {c : List Int} (hc : Bys c) : ∃ l m, Ev (fun k => spec_DrawClashIn.f k c) (l, m) ∧ Ch l ∧ Ch m := by
 obtain ⟨l, i1, s1, e1, hl, h1, h2⟩ := chain_d hc 0 0 (by omega) (by omega)
 obtain ⟨b, i2, s2, e2, _, h3, h4⟩ := one_d hc i1 s1 3 (by omega) (by omega) (by omega)
 cases b with
 | true =>
  obtain ⟨m, i3, s3, e3, hm, h5, h6⟩ := chain_d hc i2 s2 (by omega) (by omega)
  exact ⟨l, m, ev_bind e1 (ev_const e2 (ev_pos rfl (ev_bind e3 (Ev.now _)))), hl, hm⟩
 | false =>
  have p1 := putS hl ⟨#[114, 111, 111, 116]⟩ [⟨#[97, 99, 97]⟩] (by simp)
  have p2 := putS hl ⟨#[114, 111, 111, 116]⟩ [⟨#[98, 97, 98]⟩] (by simp)
  have c1 := ch_put hl ⟨#[114, 111, 111, 116]⟩ [⟨#[97, 99, 97]⟩] (by simp)
  have c2 := ch_put hl ⟨#[114, 111, 111, 116]⟩ [⟨#[98, 97, 98]⟩] (by simp)
  obtain ⟨q1, hq1⟩ : ∃ q, putBlockM l ⟨#[114, 111, 111, 116]⟩ [⟨#[97, 99, 97]⟩] = q := ⟨_, rfl⟩
  obtain ⟨q2, hq2⟩ : ∃ q, putBlockM l ⟨#[114, 111, 111, 116]⟩ [⟨#[98, 97, 98]⟩] = q := ⟨_, rfl⟩
  rw [hq1] at p1 c1
  rw [hq2] at p2 c2
  obtain ⟨m, i3, s3, e3, hm, h5, h6⟩ := items16_d hc i2 s2 (by omega) (by omega)
  have yes : Ev (fun k => spec_DrawClashIn.j0 k l q1.1 q2.1 true c i2 s2) (l, l) := Ev.step (f := fun _ => some (l, l)) (fun k => by simp only [spec_DrawClashIn.j0]; rw [if_pos trivial]) (Ev.now _)
  have no : ∃ x y, Ev (fun k => spec_DrawClashIn.j0 k l q1.1 q2.1 false c i2 s2) (x, y) ∧ Ch x ∧ Ch y := by
   have p3 := putS c1 ⟨#[114, 114, 114, 114]⟩ m hm
   have p4 := putS c2 ⟨#[114, 114, 114, 114]⟩ m hm
   have c3 := ch_put c1 ⟨#[114, 114, 114, 114]⟩ m hm
   have c4 := ch_put c2 ⟨#[114, 114, 114, 114]⟩ m hm
   obtain ⟨b5, i5, s5, e5, _, h7, h8⟩ := one_d hc i3 s3 2 (by omega) (by omega) (by omega)
   have st : ∀ {r}, Ev (fun k => ((spec_l1Cur_items16.f k c i2 s2).bind fun bt807 => ((spec_PutBlock.f k q1.1 (⟨#[114, 114, 114, 114]⟩ : ByteArray) bt807.1).bind fun bt812 => ((spec_PutBlock.f k q2.1 (⟨#[114, 114, 114, 114]⟩ : ByteArray) bt807.1).bind fun bt816 => (if bt812.2 = true then (if bt816.2 = true then ((spec_l1Cur_one.f c bt807.2.1 bt807.2.2 2).bind fun bt820 => (if bt820.1 = true then (some (bt812.1, bt816.1)) else (some (q1.1, q2.1)))) else (some (q1.1, q2.1))) else (some (q1.1, q2.1))))))) r → Ev (fun k => spec_DrawClashIn.j0 k l q1.1 q2.1 false c i2 s2) r := fun h => Ev.step (fun k => by simp only [spec_DrawClashIn.j0]; rw [if_neg (by simp)]) h
   cases f1 : (putBlockM q1.1 ⟨#[114, 114, 114, 114]⟩ m).2 with
   | false => exact ⟨_, _, st (ev_bind e3 (ev_bind p3 (ev_bind p4 (ev_neg (by simp [f1]) (Ev.now _))))), c1, c2⟩
   | true =>
    cases f2 : (putBlockM q2.1 ⟨#[114, 114, 114, 114]⟩ m).2 with
    | false => exact ⟨_, _, st (ev_bind e3 (ev_bind p3 (ev_bind p4 (ev_pos f1 (ev_neg (by simp [f2]) (Ev.now _)))))), c1, c2⟩
    | true =>
     cases b5 with
     | true => exact ⟨_, _, st (ev_bind e3 (ev_bind p3 (ev_bind p4 (ev_pos f1 (ev_pos f2 (ev_const e5 (ev_pos rfl (Ev.now _)))))))), c3, c4⟩
     | false => exact ⟨_, _, st (ev_bind e3 (ev_bind p3 (ev_bind p4 (ev_pos f1 (ev_pos f2 (ev_const e5 (ev_neg (by simp) (Ev.now _)))))))), c1, c2⟩
  cases f1 : q1.2 with
  | false => exact ⟨l, l, ev_bind e1 (ev_const e2 (ev_neg (by simp) (ev_bind p1 (ev_bind p2 (ev_neg (by simp [f1]) yes))))), hl, hl⟩
  | true =>
   cases f2 : q2.2 with
   | false => exact ⟨l, l, ev_bind e1 (ev_const e2 (ev_neg (by simp) (ev_bind p1 (ev_bind p2 (ev_pos f1 (by rw [f2]; exact yes)))))), hl, hl⟩
   | true =>
    obtain ⟨x, y, r, hx, hy⟩ := no
    exact ⟨x, y, ev_bind e1 (ev_const e2 (ev_neg (by simp) (ev_bind p1 (ev_bind p2 (ev_pos f1 (by rw [f2]; exact r)))))), hx, hy⟩
end Go.Proofs.Ythhkkhnjkoacnaa.QB
end
section
namespace Go.Proofs.Ythhkkhnjkoacnaa.PH
open Go.RowKit Go.Proofs.YthhkkhnjkoacnaaW.PrintWords Go.Proofs.YthhkkhnjkoacnaaW.PrintLast Go.Proofs.YthhkkhnjkoacnaaW.PrintMore Go.Proofs.Ythhkkhnjkoacnaa.PB Go.Proofs.Ythhkkhnjkoacnaa.PL Go.Proofs.Ythhkkhnjkoacnaa.PG Go.Proofs.Ythhkkhnjkoacnaa.PW Go.Proofs.Ythhkkhnjkoacnaa.PX Go.Proofs.Ythhkkhnjkoacnaa.PY Go.Proofs.Ythhkkhnjkoacnaa.PA
set_option linter.unusedVariables false
theorem tx_ext (a b : List ByteArray) (h : a.length = b.length) (he : ∀ i, i < a.length → (tx a i).toList = (tx b i).toList) : a = b := by
 apply List.ext_getElem h
 intro i h1 h2
 have := ba_ext (he i h1)
 unfold tx at this
 rwa [rdOf_at _ _ _ h1, rdOf_at _ _ _ h2] at this
theorem sameTexts_d (a b : List ByteArray) (hl : a.length ≤ 2000000) : Ev (fun k => laws_sameTexts.f k a b) (ch (a = b)) := by
 unfold laws_sameTexts.f
 by_cases h : a.length = b.length
 ·refine ev_pos (by omega) ?_
  have round : ∀ (r : Bool) i, i < a.length → (tx a i).toList = (tx b i).toList → Ev (fun k => laws_sameTexts.l0 k a b (a.length : Int) ((i + 1 : Nat) : Int)) r → Ev (fun k => laws_sameTexts.l0 k a b (a.length : Int) (i : Int)) r := by
   intro r i hi hq h
   refine Ev.step (f := fun k => laws_sameTexts.l0 k a b (a.length : Int) ((i + 1 : Nat) : Int)) (fun k => ?_) h
   simp only [laws_sameTexts.l0]
   rw [if_pos (by omega), if_pos (by omega), if_pos (by omega), if_pos (by omega), if_pos hq, w64 (x := (i : Int) + 1) (by omega) (by omega)]
   rfl
  by_cases hA : ∀ i, i < a.length → (tx a i).toList = (tx b i).toList
  ·rw [ch_yes (tx_ext a b h hA)]
   exact loop_yes a.length (fun i k => laws_sameTexts.l0 k a b (a.length : Int) (i : Int)) _ true round (Ev.step (f := fun _ => some true) (fun k => by simp only [laws_sameTexts.l0]; rw [if_neg (by omega)]) (Ev.now _)) hA
  ·rw [ch_no (fun e => hA (fun i _ => by rw [e]))]
   refine loop_no a.length (fun i k => laws_sameTexts.l0 k a b (a.length : Int) (i : Int)) _ false round (fun i hi hq => ?_) hA
   refine Ev.step (f := fun _ => some false) (fun k => ?_) (Ev.now _)
   simp only [laws_sameTexts.l0]
   rw [if_pos (by omega), if_pos (by omega), if_pos (by omega), if_pos (by omega), if_neg hq]
 ·refine ev_neg (by omega) ?_
  rw [ch_no (fun e => h (by rw [e]))]
  exact Ev.now _
theorem sameBlock_d (a b : ByteArray) (l : List ByteArray) (c d : ByteArray) (m : List ByteArray) (hl : l.length ≤ 2000000) : Ev (fun k => laws_sameBlock.f k a b l c d m) (ch (a = c ∧ b = d ∧ l = m)) := by
 unfold laws_sameBlock.f
 by_cases h1 : a.toList = c.toList
 ·refine ev_pos h1 ?_
  by_cases h2 : b.toList = d.toList
  ·refine ev_pos h2 (ev_bind (sameTexts_d l m hl) (ev_eq (Ev.now _) ?_))
   by_cases h3 : l = m
   ·rw [ch_yes h3, ch_yes ⟨ba_ext h1, ba_ext h2, h3⟩]
   ·rw [ch_no h3, ch_no (fun h => h3 h.2.2)]
  ·exact ev_neg h2 (ev_eq (Ev.now _) (ch_no (fun h => h2 (by rw [h.2.1]))).symm)
 ·exact ev_neg h1 (ev_eq (Ev.now _) (ch_no (fun h => h1 (by rw [h.1]))).symm)
theorem sameChain_d (l m : List S89) (hl : l.length ≤ 2000000) (hs : ∀ x ∈ l, Sm x) : Ev (fun k => laws_sameChain.f k l m) (ch (l = m)) := by
 unfold laws_sameChain.f
 by_cases h : l.length = m.length
 ·refine ev_pos (by omega) ?_
  have one : ∀ {r : Bool} (i : Nat) (h1 : i < l.length) (h2 : i < m.length), Ev (fun k => (laws_sameBlock.f k l[i].f0 l[i].f1 l[i].f2 m[i].f0 m[i].f1 m[i].f2).bind fun t => if t = true then laws_sameChain.l0 k l m (l.length : Int) ((i + 1 : Nat) : Int) else some false) r → Ev (fun k => laws_sameChain.l0 k l m (l.length : Int) (i : Int)) r := by
   intro r i h1 h2 hr
   refine Ev.step (fun k => ?_) hr
   simp only [laws_sameChain.l0]
   rw [if_pos (by omega), if_pos (by omega), if_pos (by omega), if_pos (by omega), PY.rdI_at l i h1, PY.rdI_at m i h2, w64 (x := (i : Int) + 1) (by omega) (by omega)]
   rfl
  have eqB : ∀ x y : S89, (x.f0 = y.f0 ∧ x.f1 = y.f1 ∧ x.f2 = y.f2) ↔ x = y := by
   intro x y
   constructor
   ·rintro ⟨h1, h2, h3⟩
    cases x; cases y
    simp only at h1 h2 h3
    rw [h1, h2, h3]
   ·rintro rfl; exact ⟨rfl, rfl, rfl⟩
  by_cases hA : ∀ i, i < l.length → l[i]? = m[i]?
  ·rw [ch_yes (List.ext_getElem? (fun i => by
    by_cases hi : i < l.length
    ·exact hA i hi
    ·rw [List.getElem?_eq_none (by omega), List.getElem?_eq_none (by omega)]))]
   refine loop_yes l.length (fun i k => laws_sameChain.l0 k l m (l.length : Int) (i : Int)) (fun i => l[i]? = m[i]?) true (fun r i hi hq hr => ?_) (Ev.step (f := fun _ => some true) (fun k => by simp only [laws_sameChain.l0]; rw [if_neg (by omega)]) (Ev.now _)) hA
   rw [List.getElem?_eq_getElem hi, List.getElem?_eq_getElem (by omega : i < m.length)] at hq
   exact one i hi (by omega) (ev_bind (sameBlock_d _ _ _ _ _ _ (hs _ (List.getElem_mem hi))) (ev_pos (ch_yes ((eqB _ _).2 (Option.some.inj hq))) hr))
  ·rw [ch_no (fun e => hA (fun i _ => by rw [e]))]
   refine loop_no l.length (fun i k => laws_sameChain.l0 k l m (l.length : Int) (i : Int)) (fun i => l[i]? = m[i]?) false (fun r i hi hq hr => ?_) (fun i hi hq => ?_) hA
   ·rw [List.getElem?_eq_getElem hi, List.getElem?_eq_getElem (by omega : i < m.length)] at hq
    exact one i hi (by omega) (ev_bind (sameBlock_d _ _ _ _ _ _ (hs _ (List.getElem_mem hi))) (ev_pos (ch_yes ((eqB _ _).2 (Option.some.inj hq))) hr))
   ·rw [List.getElem?_eq_getElem hi, List.getElem?_eq_getElem (by omega : i < m.length)] at hq
    refine one i hi (by omega) (ev_bind (sameBlock_d _ _ _ _ _ _ (hs _ (List.getElem_mem hi))) (ev_neg ?_ (Ev.now _)))
    rw [ch_no (fun e => hq (congrArg some ((eqB _ _).1 e)))]
    simp
 ·exact ev_neg (by omega) (ev_eq (Ev.now _) (ch_no (fun e => h (by rw [e]))).symm)
end Go.Proofs.Ythhkkhnjkoacnaa.PH
end
section
namespace Go.Proofs.Ythhkkhnjkoacnaa.PJ
open Go.RowKit Go.Proofs.YthhkkhnjkoacnaaW.PrintWords Go.Proofs.YthhkkhnjkoacnaaW.PrintLast Go.Proofs.YthhkkhnjkoacnaaW.PrintMore Go.Proofs.Ythhkkhnjkoacnaa.PB Go.Proofs.Ythhkkhnjkoacnaa.PD Go.Proofs.Ythhkkhnjkoacnaa.PK Go.Proofs.Ythhkkhnjkoacnaa.PL Go.Proofs.Ythhkkhnjkoacnaa.PG Go.Proofs.Ythhkkhnjkoacnaa.PQ Go.Proofs.Ythhkkhnjkoacnaa.PW Go.Proofs.Ythhkkhnjkoacnaa.PX Go.Proofs.Ythhkkhnjkoacnaa.PA
set_option linter.unusedVariables false
theorem app_list (a b : ByteArray) : (a ++ b).toList = a.toList ++ b.toList := by
 rw [ByteArray.toList_eq, ByteArray.toList_eq, ByteArray.toList_eq, ByteArray.data_append, Array.toList_append]
theorem one_list (n : Nat) (h : n ≤ 255) : (one (n : Int)).toList = [UInt8.ofNat n] := by
 unfold one
 rw [ByteArray.toList_eq, strOfNums_data, show (n : Int) % 256 = (n : Int) by omega]
 rfl
theorem rowM_cons (s : ByteArray) (l : List ByteArray) : rowM (s :: l) = one (s.size : Int) ++ s ++ rowM l := by
 rw [show rowM (s :: l) = rowFrom (⟨#[]⟩ ++ (one (s.size : Int) ++ s)) l from rfl, rowFrom_app, show (⟨#[]⟩ : ByteArray) ++ (one (s.size : Int) ++ s) = one (s.size : Int) ++ s from ByteArray.empty_append]
theorem rowM_inj : ∀ (l m : List ByteArray), (∀ s ∈ l, s.size ≤ 255) → (∀ s ∈ m, s.size ≤ 255) → (rowM l).toList = (rowM m).toList → l = m := by
 intro l
 induction l with
 | nil =>
  intro m _ _ h
  cases m with
  | nil => rfl
  | cons t m =>
   have e := congrArg List.length h
   rw [size_toList, size_toList, rowM_size, rowM_size] at e
   simp only [total, szL, List.length_cons, List.length_nil] at e
   omega
 | cons s l ih =>
  intro m hl hm h
  cases m with
  | nil =>
   have e := congrArg List.length h
   rw [size_toList, size_toList, rowM_size, rowM_size] at e
   simp only [total, szL, List.length_cons, List.length_nil] at e
   omega
  | cons t m =>
   have h1 := hl s List.mem_cons_self
   have h2 := hm t List.mem_cons_self
   rw [rowM_cons, rowM_cons, app_list, app_list, app_list, app_list, one_list _ h1, one_list _ h2, List.append_assoc, List.append_assoc] at h
   simp only [List.cons_append, List.nil_append, List.cons.injEq] at h
   obtain ⟨e1, e2⟩ := h
   have es : s.size = t.size := by
    have := congrArg UInt8.toNat e1
    simp only [UInt8.toNat_ofNat'] at this
    omega
   have hlen : s.toList.length = t.toList.length := by rw [size_toList, size_toList]; exact es
   obtain ⟨f1, f2⟩ := List.append_inj e2 hlen
   rw [ba_ext f1, ih m (fun x hx => hl x (List.mem_cons_of_mem _ hx)) (fun x hx => hm x (List.mem_cons_of_mem _ hx)) f2]
theorem blockM_inj {a b c d : ByteArray} {l m : List ByteArray} (h1 : blockB a b l = true) (h2 : blockB c d m = true) (h : (blockM a b l).toList = (blockM c d m).toList) : a = c ∧ b = d ∧ l = m := by
 obtain ⟨x1, x2, _, _⟩ := blockB_facts h1
 obtain ⟨y1, y2, _, _⟩ := blockB_facts h2
 unfold blockM at h
 rw [app_list, app_list, app_list, app_list] at h
 obtain ⟨e1, e2⟩ := List.append_inj h (by rw [List.length_append, List.length_append, size_toList, size_toList, size_toList, size_toList]; omega)
 obtain ⟨e3, e4⟩ := List.append_inj e1 (by rw [size_toList, size_toList]; omega)
 have items : ∀ {p q : ByteArray} {k : List ByteArray}, blockB p q k = true → ∀ s ∈ k, s.size ≤ 255 := by
  intro p q k hk s hs
  unfold blockB at hk
  simp only [Bool.and_eq_true] at hk
  have := of_decide_eq_true (List.all_eq_true.1 hk.2.2.2 s hs)
  omega
 exact ⟨ba_ext e3, ba_ext e4, rowM_inj l m (items h1) (items h2) e2⟩
end Go.Proofs.Ythhkkhnjkoacnaa.PJ
end
section
namespace Go.Proofs.Ythhkkhnjkoacnaa.Pure
open Go.RowKit Go.Proofs.YthhkkhnjkoacnaaW.PrintWords Go.Proofs.YthhkkhnjkoacnaaW.PrintLast Go.Proofs.YthhkkhnjkoacnaaW.PrintMore Go.Proofs.Ythhkkhnjkoacnaa.PB Go.Proofs.Ythhkkhnjkoacnaa.PD Go.Proofs.Ythhkkhnjkoacnaa.PU Go.Proofs.Ythhkkhnjkoacnaa.PL Go.Proofs.Ythhkkhnjkoacnaa.PG Go.Proofs.Ythhkkhnjkoacnaa.PX Go.Proofs.Ythhkkhnjkoacnaa.PY Go.Proofs.Ythhkkhnjkoacnaa.PA
set_option linter.unusedVariables false
theorem auditChain_two (a : ByteArray) (l : List S89) (hl : l.length ≤ 2000000) (hs : ∀ x ∈ l, Sm x) : ∃ r, Ev (fun k => spec_AuditChain.f k a l) r ∧ Ev (fun k => impl_AuditChain.f k a l) r := by
 have hS := allS l hl hs
 have hI := allI l hl hs
 have jS' : Ev (fun k => spec_AuditChain.j0 k a l true) (0, false) := Ev.step (f := fun _ => some (0, false)) (fun k => by simp only [spec_AuditChain.j0]; rw [if_pos trivial]) (Ev.now _)
 have jI' : Ev (fun k => impl_AuditChain.j0 k a l true) (0, false) := Ev.step (f := fun _ => some (0, false)) (fun k => by simp only [impl_AuditChain.j0]; rw [if_pos trivial]) (Ev.now _)
 by_cases ha : a.size = 4
 ·cases h : chainOk l with
  | false =>
   rw [h] at hS hI
   exact ⟨(0, false), ev_pos (by omega) (ev_bind hS jS'), ev_const (isDigI a) (ev_pos (decide_eq_true ha) (ev_bind hI jI'))⟩
  | true =>
   rw [h] at hS hI
   have key : ∀ (n : Nat), n ≤ l.length → ∀ x : ByteArray, ∃ r, Ev (fun k => spec_AuditChain.l0 k l x ((n : Int) - 1)) r ∧ Ev (fun k => impl_AuditChain.l0 k x l ((n : Int) - 1)) r := by
    intro n
    induction n with
    | zero =>
     intro _ x
     exact ⟨(-1, true), Ev.step (f := fun _ => some (-1, true)) (fun k => by simp only [spec_AuditChain.l0]; rw [if_neg (by omega)]) (Ev.now _), Ev.step (f := fun _ => some (-1, true)) (fun k => by simp only [impl_AuditChain.l0]; rw [if_neg (by omega)]) (Ev.now _)⟩
    | succ n ih =>
     intro hn x
     have hlt : n < l.length := by omega
     have hb : blockB l[n].f0 l[n].f1 l[n].f2 = true := chain_at h n hlt
     have e : ((n + 1 : Nat) : Int) - 1 = (n : Int) := by omega
     rw [e]
     obtain ⟨r, h1, h2⟩ := ih (by omega) l[n].f0
     have s1 : ∀ {r : Int × Bool}, Ev (fun k => (spec_l16Digest.f k l[n].f0 l[n].f1 l[n].f2).bind fun t => if t.toList = x.toList then (if (n : Int) = 0 then (if l[n].f0.toList = ([0, 0, 0, 0] : List UInt8) then spec_AuditChain.l0 k l l[n].f0 ((n : Int) - 1) else some ((n : Int), true)) else spec_AuditChain.l0 k l l[n].f0 ((n : Int) - 1)) else some ((n : Int), true)) r → Ev (fun k => spec_AuditChain.l0 k l x (n : Int)) r := by
      intro r hr
      refine Ev.step (fun k => ?_) hr
      simp only [spec_AuditChain.l0]
      rw [if_pos (by omega), if_pos (by omega), if_pos (by omega), rdI_at l n hlt, w64 (x := (n : Int) - 1) (by omega) (by omega)]
     have s2 : ∀ {r : Int × Bool}, Ev (fun k => (impl_Block_digest.f k l[n].f0 l[n].f1 l[n].f2).bind fun t => if t.toList = x.toList then (if (n : Int) = 0 then (if l[n].f0.toList = ([0, 0, 0, 0] : List UInt8) then impl_AuditChain.l0 k l[n].f0 l ((n : Int) - 1) else some ((n : Int), true)) else impl_AuditChain.l0 k l[n].f0 l ((n : Int) - 1)) else some ((n : Int), true)) r → Ev (fun k => impl_AuditChain.l0 k x l (n : Int)) r := by
      intro r hr
      refine Ev.step (fun k => ?_) hr
      simp only [impl_AuditChain.l0]
      rw [if_pos (by omega), if_pos (by omega), if_pos (by omega), rdI_at l n hlt, w64 (x := (n : Int) - 1) (by omega) (by omega)]
     have d1 := digBS _ _ _ hb
     have d2 := digBI _ _ _ hb
     by_cases c1 : (dig 104 (blockM l[n].f0 l[n].f1 l[n].f2)).toList = x.toList
     ·by_cases c2 : (n : Int) = 0
      ·by_cases c3 : l[n].f0.toList = ([0, 0, 0, 0] : List UInt8)
       ·exact ⟨r, s1 (ev_bind d1 (ev_pos c1 (ev_pos c2 (ev_pos c3 h1)))), s2 (ev_bind d2 (ev_pos c1 (ev_pos c2 (ev_pos c3 h2))))⟩
       ·exact ⟨((n : Int), true), s1 (ev_bind d1 (ev_pos c1 (ev_pos c2 (ev_neg c3 (Ev.now _))))), s2 (ev_bind d2 (ev_pos c1 (ev_pos c2 (ev_neg c3 (Ev.now _)))))⟩
      ·exact ⟨r, s1 (ev_bind d1 (ev_pos c1 (ev_neg c2 h1))), s2 (ev_bind d2 (ev_pos c1 (ev_neg c2 h2)))⟩
     ·exact ⟨((n : Int), true), s1 (ev_bind d1 (ev_neg c1 (Ev.now _))), s2 (ev_bind d2 (ev_neg c1 (Ev.now _)))⟩
   obtain ⟨r, h1, h2⟩ := key l.length (Nat.le_refl _) a
   have e : wrap64 ((l.length : Int) - 1) = (l.length : Int) - 1 := w64 (by omega) (by omega)
   refine ⟨r, ev_pos (by omega) (ev_bind hS ?_), ev_const (isDigI a) (ev_pos (decide_eq_true ha) (ev_bind hI ?_))⟩
   ·exact Ev.step (f := fun k => spec_AuditChain.l0 k l a ((l.length : Int) - 1)) (fun k => by simp only [Bool.not_true, spec_AuditChain.j0]; rw [if_neg (by simp), e]) h1
   ·exact Ev.step (f := fun k => impl_AuditChain.l0 k a l ((l.length : Int) - 1)) (fun k => by simp only [Bool.not_true, impl_AuditChain.j0]; rw [if_neg (by simp), e]) h2
 ·exact ⟨(0, false), ev_neg (by omega) jS', ev_const (isDigI a) (ev_neg (by simp [ha]) jI')⟩
end Go.Proofs.Ythhkkhnjkoacnaa.Pure
end
section
namespace Go.Proofs.Ythhkkhnjkoacnaa.Pure
open Go.RowKit Go.Proofs.YthhkkhnjkoacnaaW.PrintWords Go.Proofs.YthhkkhnjkoacnaaW.PrintLast Go.Proofs.YthhkkhnjkoacnaaW.PrintMore Go.Proofs.Ythhkkhnjkoacnaa.PB Go.Proofs.Ythhkkhnjkoacnaa.PD Go.Proofs.Ythhkkhnjkoacnaa.PL Go.Proofs.Ythhkkhnjkoacnaa.PG Go.Proofs.Ythhkkhnjkoacnaa.PX Go.Proofs.Ythhkkhnjkoacnaa.PY Go.Proofs.Ythhkkhnjkoacnaa.PA
set_option linter.unusedVariables false
theorem clashIn_two (l m : List S89) (hl : l.length ≤ 2000000) (hs : ∀ x ∈ l, Sm x) (hm : m.length ≤ 2000000) (hs2 : ∀ x ∈ m, Sm x) : ∃ r, Ev (fun k => spec_ClashIn.f k l m) r ∧ Ev (fun k => impl_ClashIn.f k l m) r := by
 have yS : Ev (fun k => spec_ClashIn.j0 k l m true) (⟨#[]⟩, ⟨#[]⟩, false) := Ev.step (f := fun _ => some (⟨#[]⟩, ⟨#[]⟩, false)) (fun k => by simp only [spec_ClashIn.j0]; rw [if_pos trivial]) (Ev.now _)
 have yI : Ev (fun k => impl_ClashIn.j0 k l m true) (⟨#[]⟩, ⟨#[]⟩, false) := Ev.step (f := fun _ => some (⟨#[]⟩, ⟨#[]⟩, false)) (fun k => by simp only [impl_ClashIn.j0]; rw [if_pos trivial]) (Ev.now _)
 obtain ⟨b, hS, hI⟩ := goodChain_two l hl hs
 cases b with
 | false => exact ⟨_, ev_bind hS (ev_neg (by simp) yS), ev_bind hI (ev_neg (by simp) yI)⟩
 | true =>
 obtain ⟨b2, hS2, hI2⟩ := goodChain_two m hm hs2
 cases b2 with
 | false => exact ⟨_, ev_bind hS (ev_pos rfl (ev_bind hS2 (ev_neg (by simp) yS))), ev_bind hI (ev_pos rfl (ev_bind hI2 (ev_neg (by simp) yI)))⟩
 | true =>
 have hc := chain_imp l hl hs hI
 have hc2 := chain_imp m hm hs2 hI2
 by_cases hlen : l.length = m.length
 ·obtain ⟨t1, t2⟩ := last_two l (chain_mem hc) hl
  obtain ⟨t3, t4⟩ := last_two m (chain_mem hc2) hm
  by_cases hd : (lastM l).toList = (lastM m).toList
  ·have hd' : ((lastM l).toList != (lastM m).toList) = false := bne_eq_false_iff_eq.mpr hd
   have key : ∀ (n : Nat), n ≤ l.length → ∃ r, Ev (fun k => spec_ClashIn.l0 k l m ((n : Int) - 1)) r ∧ Ev (fun k => impl_ClashIn.l0 k l m ((n : Int) - 1)) r := by
    intro n
    induction n with
    | zero =>
     intro _
     exact ⟨(⟨#[]⟩, ⟨#[]⟩, false), Ev.step (f := fun _ => some (⟨#[]⟩, ⟨#[]⟩, false)) (fun k => by simp only [spec_ClashIn.l0]; rw [if_neg (by omega)]) (Ev.now _), Ev.step (f := fun _ => some (⟨#[]⟩, ⟨#[]⟩, false)) (fun k => by simp only [impl_ClashIn.l0]; rw [if_neg (by omega)]) (Ev.now _)⟩
    | succ n ih =>
     intro hn
     have hlt : n < l.length := by omega
     have hlt2 : n < m.length := by omega
     have hb : blockB l[n].f0 l[n].f1 l[n].f2 = true := chain_at hc n hlt
     have hb2 : blockB m[n].f0 m[n].f1 m[n].f2 = true := chain_at hc2 n hlt2
     have e : ((n + 1 : Nat) : Int) - 1 = (n : Int) := by omega
     rw [e]
     obtain ⟨r, h1, h2⟩ := ih (by omega)
     have s1 : ∀ {r : ByteArray × ByteArray × Bool}, Ev (fun k => (spec_l16Bytes.f k l[n].f0 l[n].f1 l[n].f2).bind fun x => ((spec_l16Bytes.f k m[n].f0 m[n].f1 m[n].f2).bind fun y => (if x.toList = y.toList then spec_ClashIn.l0 k l m ((n : Int) - 1) else ((spec_l16Digest.f k l[n].f0 l[n].f1 l[n].f2).bind fun p => ((spec_l16Digest.f k m[n].f0 m[n].f1 m[n].f2).bind fun q => (if p.toList = q.toList then (some (x, y, true)) else (some (⟨#[]⟩, ⟨#[]⟩, false)))))))) r → Ev (fun k => spec_ClashIn.l0 k l m (n : Int)) r := by
      intro r hr
      refine Ev.step (fun k => ?_) hr
      simp only [spec_ClashIn.l0]
      rw [if_pos (by omega), if_pos (by omega), if_pos (by omega), rdI_at l n hlt, rdI_at m n hlt2, w64 (x := (n : Int) - 1) (by omega) (by omega)]
      congr 1
      funext x
      rw [if_pos (by omega)]
     have s2 : ∀ {r : ByteArray × ByteArray × Bool}, Ev (fun k => (impl_Block_bytes.f k l[n].f0 l[n].f1 l[n].f2).bind fun x => ((impl_Block_bytes.f k m[n].f0 m[n].f1 m[n].f2).bind fun y => (if x.toList = y.toList then impl_ClashIn.l0 k l m ((n : Int) - 1) else ((impl_Block_digest.f k l[n].f0 l[n].f1 l[n].f2).bind fun p => ((impl_Block_digest.f k m[n].f0 m[n].f1 m[n].f2).bind fun q => (if p.toList = q.toList then (some (x, y, true)) else (some (⟨#[]⟩, ⟨#[]⟩, false)))))))) r → Ev (fun k => impl_ClashIn.l0 k l m (n : Int)) r := by
      intro r hr
      refine Ev.step (fun k => ?_) hr
      simp only [impl_ClashIn.l0]
      rw [if_pos (by omega), if_pos (by omega), if_pos (by omega), rdI_at l n hlt, rdI_at m n hlt2, w64 (x := (n : Int) - 1) (by omega) (by omega)]
      congr 1
      funext x
      rw [if_pos (by omega)]
     have u1 := bytesBS _ _ _ hb
     have u2 := bytesBS _ _ _ hb2
     have v1 := bytesBI _ _ _ hb
     have v2 := bytesBI _ _ _ hb2
     by_cases c1 : (blockM l[n].f0 l[n].f1 l[n].f2).toList = (blockM m[n].f0 m[n].f1 m[n].f2).toList
     ·exact ⟨r, s1 (ev_bind u1 (ev_bind u2 (ev_pos c1 h1))), s2 (ev_bind v1 (ev_bind v2 (ev_pos c1 h2)))⟩
     ·have d1 := digBS _ _ _ hb
      have d2 := digBS _ _ _ hb2
      have e1 := digBI _ _ _ hb
      have e2 := digBI _ _ _ hb2
      by_cases c2 : (dig 104 (blockM l[n].f0 l[n].f1 l[n].f2)).toList = (dig 104 (blockM m[n].f0 m[n].f1 m[n].f2)).toList
      ·exact ⟨_, s1 (ev_bind u1 (ev_bind u2 (ev_neg c1 (ev_bind d1 (ev_bind d2 (ev_pos c2 (Ev.now _))))))), s2 (ev_bind v1 (ev_bind v2 (ev_neg c1 (ev_bind e1 (ev_bind e2 (ev_pos c2 (Ev.now _)))))))⟩
      ·exact ⟨_, s1 (ev_bind u1 (ev_bind u2 (ev_neg c1 (ev_bind d1 (ev_bind d2 (ev_neg c2 (Ev.now _))))))), s2 (ev_bind v1 (ev_bind v2 (ev_neg c1 (ev_bind e1 (ev_bind e2 (ev_neg c2 (Ev.now _)))))))⟩
   obtain ⟨r, h1, h2⟩ := key l.length (Nat.le_refl _)
   have e : wrap64 ((l.length : Int) - 1) = (l.length : Int) - 1 := w64 (by omega) (by omega)
   refine ⟨r, ev_bind hS (ev_pos rfl (ev_bind hS2 (ev_pos rfl (ev_pos (by omega) (ev_bind t1 (ev_bind t3 ?_)))))), ev_bind hI (ev_pos rfl (ev_bind hI2 (ev_pos rfl (ev_pos (by omega) (ev_bind t2 (ev_bind t4 ?_))))))⟩
   ·rw [hd']
    exact Ev.step (f := fun k => spec_ClashIn.l0 k l m ((l.length : Int) - 1)) (fun k => by simp only [spec_ClashIn.j0]; rw [if_neg (by simp), e]) h1
   ·rw [hd']
    exact Ev.step (f := fun k => impl_ClashIn.l0 k l m ((l.length : Int) - 1)) (fun k => by simp only [impl_ClashIn.j0]; rw [if_neg (by simp), e]) h2
  ·have hd' : ((lastM l).toList != (lastM m).toList) = true := bne_iff_ne.mpr hd
   refine ⟨(⟨#[]⟩, ⟨#[]⟩, false), ev_bind hS (ev_pos rfl (ev_bind hS2 (ev_pos rfl (ev_pos (by omega) (ev_bind t1 (ev_bind t3 ?_)))))), ev_bind hI (ev_pos rfl (ev_bind hI2 (ev_pos rfl (ev_pos (by omega) (ev_bind t2 (ev_bind t4 ?_))))))⟩
   ·rw [hd']; exact yS
   ·rw [hd']; exact yI
 ·exact ⟨_, ev_bind hS (ev_pos rfl (ev_bind hS2 (ev_pos rfl (ev_neg (by omega) yS)))), ev_bind hI (ev_pos rfl (ev_bind hI2 (ev_pos rfl (ev_neg (by omega) yI))))⟩
end Go.Proofs.Ythhkkhnjkoacnaa.Pure
end
section
namespace Go.Proofs.Ythhkkhnjkoacnaa.Pure
open Go.RowKit Go.Proofs.YthhkkhnjkoacnaaW.PrintWords Go.Proofs.YthhkkhnjkoacnaaW.PrintLast Go.Proofs.YthhkkhnjkoacnaaW.PrintMore Go.Proofs.Ythhkkhnjkoacnaa.PB Go.Proofs.Ythhkkhnjkoacnaa.PD Go.Proofs.Ythhkkhnjkoacnaa.PL Go.Proofs.Ythhkkhnjkoacnaa.PU Go.Proofs.Ythhkkhnjkoacnaa.PQ Go.Proofs.Ythhkkhnjkoacnaa.PC Go.Proofs.Ythhkkhnjkoacnaa.PW Go.Proofs.Ythhkkhnjkoacnaa.PX Go.Proofs.Ythhkkhnjkoacnaa.PY Go.Proofs.Ythhkkhnjkoacnaa.PH Go.Proofs.Ythhkkhnjkoacnaa.PJ Go.Proofs.Ythhkkhnjkoacnaa.QA Go.Proofs.Ythhkkhnjkoacnaa.QB Go.Proofs.Ythhkkhnjkoacnaa.PA
set_option linter.unusedVariables false
def Back (l : List S89) (n : Nat) (x : ByteArray) : Prop := (0 < n → blkM (bk l (n - 1)) = x) ∧ ∀ i, i < n → LinkAt l i
theorem back_succ (l : List S89) (n : Nat) (x : ByteArray) : Back l (n + 1) x ↔ blkM (bk l n) = x ∧ (n = 0 → (bk l n).f0 = zero4) ∧ Back l n (bk l n).f0 := by
 constructor
 ·rintro ⟨h1, h2⟩
  exact ⟨h1 (by omega), (h2 n (by omega)).1, fun h => ((h2 n (by omega)).2 h).symm, fun i hi => h2 i (by omega)⟩
 ·rintro ⟨h1, h2, h3, h4⟩
  refine ⟨fun _ => h1, fun i hi => ?_⟩
  by_cases e : i = n
  ·subst e; exact ⟨h2, fun h => (h3 h).symm⟩
  ·exact h4 i (by omega)
theorem audit_loop (l : List S89) (h : chainOk l = true) : ∀ (n : Nat), n ≤ l.length → ∀ x : ByteArray, ∃ r : Int, Ev (fun k => impl_AuditChain.l0 k x l ((n : Int) - 1)) (r, true) ∧ (r = -1 ↔ Back l n x) := by
 have hn12 := chain_len h
 intro n
 induction n with
 | zero =>
  intro _ x
  exact ⟨-1, Ev.step (f := fun _ => some (-1, true)) (fun k => by simp only [impl_AuditChain.l0]; rw [if_neg (by omega)]) (Ev.now _), ⟨fun _ => ⟨fun h => absurd h (by omega), fun i hi => absurd hi (by omega)⟩, fun _ => rfl⟩⟩
 | succ n ih =>
  intro hn x
  have hlt : n < l.length := by omega
  have hb : blockB l[n].f0 l[n].f1 l[n].f2 = true := chain_at h n hlt
  have e : ((n + 1 : Nat) : Int) - 1 = (n : Int) := by omega
  rw [e]
  obtain ⟨r, h2, h3⟩ := ih (by omega) l[n].f0
  have s2 : ∀ {r : Int × Bool}, Ev (fun k => (impl_Block_digest.f k l[n].f0 l[n].f1 l[n].f2).bind fun t => if t.toList = x.toList then (if (n : Int) = 0 then (if l[n].f0.toList = ([0, 0, 0, 0] : List UInt8) then impl_AuditChain.l0 k l[n].f0 l ((n : Int) - 1) else some ((n : Int), true)) else impl_AuditChain.l0 k l[n].f0 l ((n : Int) - 1)) else some ((n : Int), true)) r → Ev (fun k => impl_AuditChain.l0 k x l (n : Int)) r := by
   intro r hr
   refine Ev.step (fun k => ?_) hr
   simp only [impl_AuditChain.l0]
   rw [if_pos (by omega), if_pos (by omega), if_pos (by omega), PY.rdI_at l n hlt, w64 (x := (n : Int) - 1) (by omega) (by omega)]
  have d2 := digBI _ _ _ hb
  have ek := bk_at l n hlt
  have bm : blkM (bk l n) = dig 104 (blockM l[n].f0 l[n].f1 l[n].f2) := by rw [ek]; rfl
  have z : ∀ y : ByteArray, y.toList = ([0, 0, 0, 0] : List UInt8) ↔ y = zero4 := by
   intro y
   have : zero4.toList = ([0, 0, 0, 0] : List UInt8) := by rw [ByteArray.toList_eq]; rfl
   rw [← this]
   exact ba_iff
  by_cases c1 : (dig 104 (blockM l[n].f0 l[n].f1 l[n].f2)).toList = x.toList
  ·have g1 : blkM (bk l n) = x := by rw [bm]; exact ba_ext c1
   by_cases c2 : n = 0
   ·by_cases c3 : l[n].f0.toList = ([0, 0, 0, 0] : List UInt8)
    ·refine ⟨r, s2 (ev_bind d2 (ev_pos c1 (ev_pos (by omega) (ev_pos c3 h2)))), ?_⟩
     rw [h3, back_succ, ek]
     exact ⟨fun hb => ⟨by rw [← ek]; exact g1, fun _ => (z _).1 c3, hb⟩, fun hb => hb.2.2⟩
    ·refine ⟨(n : Int), s2 (ev_bind d2 (ev_pos c1 (ev_pos (by omega) (ev_neg c3 (Ev.now _))))), ⟨fun e => by omega, fun hb => ?_⟩⟩
     exact absurd ((z _).2 (by rw [← ek]; exact ((back_succ l n x).1 hb).2.1 c2)) c3
   ·refine ⟨r, s2 (ev_bind d2 (ev_pos c1 (ev_neg (by omega) h2))), ?_⟩
    rw [h3, back_succ, ek]
    exact ⟨fun hb => ⟨by rw [← ek]; exact g1, fun e => absurd e c2, hb⟩, fun hb => hb.2.2⟩
  ·refine ⟨(n : Int), s2 (ev_bind d2 (ev_neg c1 (Ev.now _))), ⟨fun e => by omega, fun hb => ?_⟩⟩
   have := ((back_succ l n x).1 hb).1
   rw [bm] at this
   exact absurd (by rw [this]) c1
theorem auditI (a : ByteArray) (l : List S89) (hl : l.length ≤ 2000000) (hs : ∀ x ∈ l, Sm x) : ∃ r ok, Ev (fun k => impl_AuditChain.f k a l) (r, ok) ∧ (ok = true → chainOk l = true ∧ (r = -1 ↔ Back l l.length a)) := by
 have hI := allI l hl hs
 have jI' : Ev (fun k => impl_AuditChain.j0 k a l true) (0, false) := Ev.step (f := fun _ => some (0, false)) (fun k => by simp only [impl_AuditChain.j0]; rw [if_pos trivial]) (Ev.now _)
 by_cases ha : a.size = 4
 ·cases h : chainOk l with
  | false =>
   rw [h] at hI
   exact ⟨0, false, ev_const (isDigI a) (ev_pos (decide_eq_true ha) (ev_bind hI jI')), fun h => by cases h⟩
  | true =>
   rw [h] at hI
   obtain ⟨r, h2, h3⟩ := audit_loop l h l.length (Nat.le_refl _) a
   have e : wrap64 ((l.length : Int) - 1) = (l.length : Int) - 1 := w64 (by omega) (by omega)
   refine ⟨r, true, ev_const (isDigI a) (ev_pos (decide_eq_true ha) (ev_bind hI ?_)), fun _ => ⟨rfl, h3⟩⟩
   exact Ev.step (f := fun k => impl_AuditChain.l0 k a l ((l.length : Int) - 1)) (fun k => by simp only [Bool.not_true, impl_AuditChain.j0]; rw [if_neg (by simp), e]) h2
 ·exact ⟨0, false, ev_const (isDigI a) (ev_neg (by simp [ha]) jI'), fun h => by cases h⟩
theorem clash_loop (l m : List S89) (hl : Linked l) (hm : Linked m) (hlen : l.length = m.length) : ∀ (n : Nat), n ≤ l.length → (0 < n → blkM (bk l (n - 1)) = blkM (bk m (n - 1))) →
  ∃ x y f, Ev (fun k => impl_ClashIn.l0 k l m ((n : Int) - 1)) (x, y, f) ∧ (f = true → x ≠ y ∧ dig 104 x = dig 104 y ∧ x.size ≤ 600 ∧ y.size ≤ 600) ∧ (f = false ↔ ∀ i, i < n → bk l i = bk m i) := by
 have hn12 := chain_len hl.1
 intro n
 induction n with
 | zero =>
  intro _ _
  exact ⟨⟨#[]⟩, ⟨#[]⟩, false, Ev.step (f := fun _ => some (⟨#[]⟩, ⟨#[]⟩, false)) (fun k => by simp only [impl_ClashIn.l0]; rw [if_neg (by omega)]) (Ev.now _), fun h => (by cases h), ⟨fun _ i hi => absurd hi (by omega), fun _ => rfl⟩⟩
 | succ n ih =>
  intro hn hd
  have hlt : n < l.length := by omega
  have hlt2 : n < m.length := by omega
  have hb : blockB l[n].f0 l[n].f1 l[n].f2 = true := chain_at hl.1 n hlt
  have hb2 : blockB m[n].f0 m[n].f1 m[n].f2 = true := chain_at hm.1 n hlt2
  have e : ((n + 1 : Nat) : Int) - 1 = (n : Int) := by omega
  rw [e]
  have ek := bk_at l n hlt
  have ek2 := bk_at m n hlt2
  have s2 : ∀ {r : ByteArray × ByteArray × Bool}, Ev (fun k => (impl_Block_bytes.f k l[n].f0 l[n].f1 l[n].f2).bind fun x => ((impl_Block_bytes.f k m[n].f0 m[n].f1 m[n].f2).bind fun y => (if x.toList = y.toList then impl_ClashIn.l0 k l m ((n : Int) - 1) else ((impl_Block_digest.f k l[n].f0 l[n].f1 l[n].f2).bind fun p => ((impl_Block_digest.f k m[n].f0 m[n].f1 m[n].f2).bind fun q => (if p.toList = q.toList then (some (x, y, true)) else (some (⟨#[]⟩, ⟨#[]⟩, false)))))))) r → Ev (fun k => impl_ClashIn.l0 k l m (n : Int)) r := by
   intro r hr
   refine Ev.step (fun k => ?_) hr
   simp only [impl_ClashIn.l0]
   rw [if_pos (by omega), if_pos (by omega), if_pos (by omega), PY.rdI_at l n hlt, PY.rdI_at m n hlt2, w64 (x := (n : Int) - 1) (by omega) (by omega)]
   congr 1
   funext x
   rw [if_pos (by omega)]
  have v1 := bytesBI _ _ _ hb
  have v2 := bytesBI _ _ _ hb2
  by_cases c1 : (blockM l[n].f0 l[n].f1 l[n].f2).toList = (blockM m[n].f0 m[n].f1 m[n].f2).toList
  ·obtain ⟨i1, i2, i3⟩ := blockM_inj hb hb2 c1
   have same : bk l n = bk m n := by
    rw [ek, ek2]
    generalize l[n] = p at i1 i2 i3
    generalize m[n] = q at i1 i2 i3
    cases p; cases q
    simp only at i1 i2 i3
    rw [i1, i2, i3]
   obtain ⟨x, y, f, h1, h2, h3⟩ := ih (by omega) (fun h0 => by
    have q1 := (hl.2 n hlt).2 h0
    have q2 := (hm.2 n hlt2).2 h0
    rw [← q1, ← q2, same])
   refine ⟨x, y, f, s2 (ev_bind v1 (ev_bind v2 (ev_pos c1 h1))), h2, ?_⟩
   rw [h3]
   constructor
   ·intro h i hi
    by_cases e : i = n
    ·subst e; exact same
    ·exact h i (by omega)
   ·intro h i hi; exact h i (by omega)
  ·have e1 := digBI _ _ _ hb
   have e2 := digBI _ _ _ hb2
   have hq : dig 104 (blockM l[n].f0 l[n].f1 l[n].f2) = dig 104 (blockM m[n].f0 m[n].f1 m[n].f2) := by
    have := hd (by omega)
    rw [show n + 1 - 1 = n by omega, ek, ek2] at this
    exact this
   refine ⟨_, _, true, s2 (ev_bind v1 (ev_bind v2 (ev_neg c1 (ev_bind e1 (ev_bind e2 (ev_pos (by rw [hq]) (Ev.now _))))))), fun _ => ⟨fun h => c1 (by rw [h]), hq, by have := blockM_size hb; omega, by have := blockM_size hb2; omega⟩, ⟨fun h => (by cases h), fun h => ?_⟩⟩
   have := h n (by omega)
   rw [ek, ek2] at this
   exact absurd (by rw [this]) c1
theorem clash_all (l m : List S89) (hl : l.length ≤ 2000000) (hs : ∀ x ∈ l, Sm x) (hm : m.length ≤ 2000000) (hs2 : ∀ x ∈ m, Sm x) : ∃ x y f, Ev (fun k => impl_ClashIn.f k l m) (x, y, f) ∧ Ev (fun k => spec_ClashIn.f k l m) (x, y, f) ∧ (f = true → x ≠ y ∧ dig 104 x = dig 104 y ∧ x.size ≤ 600 ∧ y.size ≤ 600) ∧
  (Linked l → Linked m → (f = true ↔ (l.length = m.length ∧ lastM l = lastM m ∧ l ≠ m))) := by
 obtain ⟨⟨x0, y0, f0⟩, hS, hI⟩ := clashIn_two l m hl hs hm hs2
 suffices h : ∃ x y f, Ev (fun k => impl_ClashIn.f k l m) (x, y, f) ∧ (f = true → x ≠ y ∧ dig 104 x = dig 104 y ∧ x.size ≤ 600 ∧ y.size ≤ 600) ∧ (Linked l → Linked m → (f = true ↔ (l.length = m.length ∧ lastM l = lastM m ∧ l ≠ m))) by
  obtain ⟨x, y, f, h1, h2, h3⟩ := h
  have := ev_unique hI h1
  injection this with e1 this
  injection this with e2 e3
  subst e1; subst e2; subst e3
  exact ⟨_, _, _, h1, hS, h2, h3⟩
 clear hS hI x0 y0 f0
 have yI : Ev (fun k => impl_ClashIn.j0 k l m true) (⟨#[]⟩, ⟨#[]⟩, false) := Ev.step (f := fun _ => some (⟨#[]⟩, ⟨#[]⟩, false)) (fun k => by simp only [impl_ClashIn.j0]; rw [if_pos trivial]) (Ev.now _)
 have g1 := goodChainI l hl hs
 have g2 := goodChainI m hm hs2
 by_cases c1 : Linked l
 ·rw [ch_yes c1] at g1
  by_cases c2 : Linked m
  ·rw [ch_yes c2] at g2
   by_cases c3 : l.length = m.length
   ·have t2 := (last_two l (chain_mem c1.1) hl).2
    have t4 := (last_two m (chain_mem c2.1) hm).2
    by_cases c4 : (lastM l).toList = (lastM m).toList
    ·have hd' : ((lastM l).toList != (lastM m).toList) = false := bne_eq_false_iff_eq.mpr c4
     obtain ⟨x, y, f, h1, h2, h3⟩ := clash_loop l m c1 c2 c3 l.length (Nat.le_refl _) (fun h0 => by
      have := ba_ext c4
      rw [lastM_bk l h0, lastM_bk m (by omega), ← c3] at this
      exact this)
     have e : wrap64 ((l.length : Int) - 1) = (l.length : Int) - 1 := w64 (by omega) (by omega)
     refine ⟨x, y, f, ev_bind g1 (ev_pos rfl (ev_bind g2 (ev_pos rfl (ev_pos (by omega) (ev_bind t2 (ev_bind t4 ?_)))))), h2, fun _ _ => ?_⟩
     ·rw [hd']
      exact Ev.step (f := fun k => impl_ClashIn.l0 k l m ((l.length : Int) - 1)) (fun k => by simp only [impl_ClashIn.j0]; rw [if_neg (by simp), e]) h1
     ·have eqv : (∀ i, i < l.length → bk l i = bk m i) ↔ l = m := by
       constructor
       ·intro h
        apply List.ext_getElem c3
        intro i h1 h2
        have := h i h1
        rwa [bk_at l i h1, bk_at m i h2] at this
       ·rintro rfl; intro i hi; rfl
      rw [eqv] at h3
      cases f with
      | true => exact ⟨fun _ => ⟨c3, ba_ext c4, fun h => (by cases h3.2 h)⟩, fun _ => rfl⟩
      | false => exact ⟨fun h => (by cases h), fun h => absurd (h3.1 rfl) h.2.2⟩
    ·have hd' : ((lastM l).toList != (lastM m).toList) = true := bne_iff_ne.mpr c4
     refine ⟨⟨#[]⟩, ⟨#[]⟩, false, ev_bind g1 (ev_pos rfl (ev_bind g2 (ev_pos rfl (ev_pos (by omega) (ev_bind t2 (ev_bind t4 ?_)))))), fun h => (by cases h), fun _ _ => ⟨fun h => (by cases h), fun h => absurd (by rw [h.2.1]) c4⟩⟩
     rw [hd']; exact yI
   ·exact ⟨⟨#[]⟩, ⟨#[]⟩, false, ev_bind g1 (ev_pos rfl (ev_bind g2 (ev_pos rfl (ev_neg (by omega) yI)))), fun h => (by cases h), fun _ _ => ⟨fun h => (by cases h), fun h => absurd h.1 c3⟩⟩
  ·rw [ch_no c2] at g2
   exact ⟨⟨#[]⟩, ⟨#[]⟩, false, ev_bind g1 (ev_pos rfl (ev_bind g2 (ev_neg (by simp) yI))), fun h => (by cases h), fun _ h => absurd h c2⟩
 ·rw [ch_no c1] at g1
  exact ⟨⟨#[]⟩, ⟨#[]⟩, false, ev_bind g1 (ev_neg (by simp) yI), fun h => (by cases h), fun h => absurd h c1⟩
theorem FnAudit : laws_FnAudit.Pure := by
 intro l0 l1 hl0 hm0 hc0 hl1 hm1 hc1
 refine Ev.rounds ?_
 unfold laws_FnAudit.f
 by_cases hsz : wrap64 ((l0.length : Int) + (l1.length : Int)) > 1048576
 ·exact ev_pos hsz (Ev.now _)
 refine ev_neg hsz ?_
 clear hsz
 have c0 := code_of l0 hc0
 have c1 := code_of l1 hc1
 obtain ⟨a, l, hd, hl⟩ := drawAudit c0
 obtain ⟨p, q, hd2, hp, hq⟩ := drawClash c1
 have hl' : l.length ≤ 2000000 := by have := hl.1; omega
 have hp' : p.length ≤ 2000000 := by have := hp.1; omega
 have hq' : q.length ≤ 2000000 := by have := hq.1; omega
 -- the second half
 have j3 : ∀ (x y : ByteArray) (f : Bool), (f = true → x ≠ y ∧ dig 104 x = dig 104 y ∧ x.size ≤ 600 ∧ y.size ≤ 600) → Ev (fun k => laws_FnAudit.j3 k x y f false) true := by
  intro x y f hf
  refine Ev.step (f := fun k => _) (fun k => by simp only [laws_FnAudit.j3]; rfl) ?_
  refine ev_neg (by simp) ?_
  cases f with
  | false => exact ev_neg (by simp) (Ev.now _)
  | true =>
   obtain ⟨h1, h2, h3, h4⟩ := hf rfl
   have d1 := digestOfI 104 x
   have d2 := digestOfI 104 y
   have e1 : digestOfM 104 x = (dig 104 x, true) := by unfold digestOfM; rw [if_pos ⟨⟨by decide, by decide⟩, h3⟩]
   have e2 : digestOfM 104 y = (dig 104 y, true) := by unfold digestOfM; rw [if_pos ⟨⟨by decide, by decide⟩, h4⟩]
   rw [e1] at d1
   rw [e2] at d2
   exact ev_pos rfl (ev_bind d1 (ev_bind d2 (ev_pos rfl (ev_pos rfl (ev_pos (by rw [h2]) (ev_eq (Ev.now _) (bne_iff_ne.2 (fun e => h1 (ba_ext e)))))))))
 have tail : Ev (fun k => laws_FnAudit.j1 k l1 false) true := by
  obtain ⟨x, y, f, k1, k2, k3, k4⟩ := clash_all p q hp' hp.sm hq' hq.sm
  have d1 := lastDigestI p hp' hp.sm
  have d2 := lastDigestI q hq' hq.sm
  have j3' := j3 x y f k3
  refine Ev.step (f := fun k => _) (fun k => by simp only [laws_FnAudit.j1]; rfl) ?_
  refine ev_neg (by simp) (ev_bind hd2 (ev_bind k1 (ev_bind k2 (ev_neg (by simp) (ev_pos rfl ?_)))))
  simp only [bne_self_eq_false]
  refine Ev.step (f := fun k => _) (fun k => by simp only [laws_FnAudit.j2]; rfl) ?_
  refine ev_neg (by simp) (ev_bind d1 (ev_bind d2 ?_))
  by_cases g1 : Linked p
  ·by_cases g2 : Linked q
   ·have e1 : lastDigestM p = (lastM p, true) := by unfold lastDigestM; rw [if_pos (ch_yes g1)]
    have e2 : lastDigestM q = (lastM q, true) := by unfold lastDigestM; rw [if_pos (ch_yes g2)]
    rw [e1, e2]
    have k5 := k4 g1 g2
    refine ev_pos rfl (ev_pos rfl ?_)
    by_cases g3 : p.length = q.length
    ·refine ev_pos (by omega) ?_
     by_cases g4 : (lastM p).toList = (lastM q).toList
     ·refine ev_pos g4 (ev_bind (sameChain_d p q hp' hp.sm) ?_)
      have : (f != !ch (p = q)) = false := by
       by_cases g5 : p = q
       ·have : f = false := by
         cases f with
         | false => rfl
         | true => exact absurd g5 (k5.1 rfl).2.2
        rw [ch_yes g5, this]; rfl
       ·rw [ch_no g5, k5.2 ⟨g3, ba_ext g4, g5⟩]; rfl
      rw [this]
      exact j3'
     ·have : f = false := by
       cases f with
       | false => rfl
       | true => exact absurd (by rw [(k5.1 rfl).2.1]) g4
      refine ev_neg g4 ?_
      rw [show (f != false) = false by rw [this]; rfl]
      exact j3'
    ·have : f = false := by
      cases f with
      | false => rfl
      | true => exact absurd (k5.1 rfl).1 g3
     refine ev_neg (by omega) ?_
     rw [show (f != false) = false by rw [this]; rfl]
     exact j3'
   ·have e2 : lastDigestM q = (⟨#[]⟩, false) := by unfold lastDigestM; rw [if_neg (by rw [ch_no g2]; simp)]
    have e1 : lastDigestM p = (lastM p, true) := by unfold lastDigestM; rw [if_pos (ch_yes g1)]
    rw [e1, e2]
    exact ev_pos rfl (ev_neg (by simp) j3')
  ·have e1 : lastDigestM p = (⟨#[]⟩, false) := by unfold lastDigestM; rw [if_neg (by rw [ch_no g1]; simp)]
   rw [e1]
   exact ev_neg (by simp) j3'
 obtain ⟨r, ok, hI, hR⟩ := auditI a l hl' hl.sm
 obtain ⟨r', hS', hI'⟩ := auditChain_two a l hl' hl.sm
 rw [ev_unique hI' hI] at hS'
 have dI := lastDigestI l hl' hl.sm
 refine ev_bind hd (ev_bind hI (ev_bind hS' (ev_bind dI (ev_neg (by simp) ?_))))
 simp only [bne_self_eq_false]
 refine Ev.step (f := fun k => _) (fun k => by simp only [laws_FnAudit.j0]; rfl) ?_
 refine ev_neg (by simp) ?_
 cases ok with
 | false => exact ev_neg (by simp) tail
 | true =>
  obtain ⟨hc, hb⟩ := hR rfl
  refine ev_pos rfl ?_
  by_cases h0 : (l.length : Int) > 0
  ·refine ev_pos h0 ?_
   by_cases g : Linked l
   ·have e1 : lastDigestM l = (lastM l, true) := by unfold lastDigestM; rw [if_pos (ch_yes g)]
    rw [e1]
    refine ev_pos rfl ?_
    have : ((r == -1) != ((lastM l).toList == a.toList)) = false := by
     by_cases e : lastM l = a
     ·have : r = -1 := hb.2 ⟨fun _ => by rw [← lastM_bk l (by omega)]; exact e, g.2⟩
      rw [e, this]; simp
     ·have h1 : ¬ r = -1 := fun h => e (by rw [lastM_bk l (by omega)]; exact (hb.1 h).1 (by omega))
      rw [beq_eq_false_iff_ne.2 h1, beq_eq_false_iff_ne.2 (fun h => e (ba_ext h))]; rfl
    rw [this]
    exact tail
   ·have e1 : lastDigestM l = (⟨#[]⟩, false) := by unfold lastDigestM; rw [if_neg (by rw [ch_no g]; simp)]
    rw [e1]
    refine ev_neg (by simp) ?_
    have h1 : ¬ r = -1 := fun h => g ⟨hc, (hb.1 h).2⟩
    rw [show ((r == -1) != false) = false by rw [beq_eq_false_iff_ne.2 h1]; rfl]
    exact tail
  ·exact ev_neg h0 tail
end Go.Proofs.Ythhkkhnjkoacnaa.Pure
end
