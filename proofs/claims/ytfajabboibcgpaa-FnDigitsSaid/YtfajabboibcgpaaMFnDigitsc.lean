/- For the law FnDigits: what it needs of the words, of the printed functions and of the plain laws, in few texts (laid by merge.py of this workplace). -/
import Derived.Test.YtfajabboibcgpaaMFnDigitsb
import Derived.Laws.BitsLemmas
section
namespace Go.Proofs.Ytfajabboibcgpaa.PA
open Go.RowKit Go.Proofs.YtfajabboibcgpaaW.PrintWords Go.Proofs.YtfajabboibcgpaaW.PrintLast Go.Proofs.YtfajabboibcgpaaW.PrintMore
attribute [local go_sem] max2_int min2_int max_two min_two max_three min_three max_four min_four   -- for this text's walks alone
set_option linter.unusedVariables false
set_option linter.unusedSimpArgs false
def spec_ChainOf.f (k : Nat) (a0 : ByteArray) (a1 : Int) (a2 : Int) : Option (ByteArray × Bool) := if (a0.size : Int) = 4 then ((spec_l1In.f a1 0 15).bind fun t343 => (if t343 = true then ((spec_l1In.f a2 0 (wrap64 (15 - a1))).bind fun t344 => (if t344 = true then ((spec_l2Chain.f k a0 a1 a2).bind fun t345 => (some (t345, true))) else (some ((⟨#[]⟩ : ByteArray), false)))) else (some ((⟨#[]⟩ : ByteArray), false)))) else (some ((⟨#[]⟩ : ByteArray), false))
set_option maxHeartbeats 8000000 in
set_option maxRecDepth 100000 in
theorem spec_ChainOf.calls (k : Nat) (a0 : ByteArray) (a1 : Int) (a2 : Int) (r1 : ByteArray) (r2 : Bool) (w : World) (h : spec_ChainOf.f k a0 a1 a2 = some (r1, r2)) :
  Calls Try.prog 27 #[.string a0, .int .i64 a1, .int .i64 a2] w fun e w' => e = .returned (.tuple #[.string r1, .bool r2]) ∧ Below w.heap.size w w' := by
 have HB := Aside0.mk (Below.refl w.heap.size w)
 have H : (if (a0.size : Int) = 4 then ((spec_l1In.f a1 0 15).bind fun t343 => (if t343 = true then ((spec_l1In.f a2 0 (wrap64 (15 - a1))).bind fun t344 => (if t344 = true then ((spec_l2Chain.f k a0 a1 a2).bind fun t345 => (some (t345, true))) else (some ((⟨#[]⟩ : ByteArray), false)))) else (some ((⟨#[]⟩ : ByteArray), false)))) else (some ((⟨#[]⟩ : ByteArray), false))) = some (r1, r2) := h
 clear h
 by_cases c4 : (a0.size : Int) = 4
 ·rw [if_pos c4] at H
  have c4b0 : ((a0.size : Int) == 4) = true := beq_iff_eq.mpr c4
  have c4b1 : ((a0.size : Int) != 4) = false := bne_eq_false_iff_eq.mpr c4
  clear c4
  replace H := Option.bind_eq_some_iff.mp H
  obtain ⟨t343, A50, H⟩ := H
  replace H : (if t343 = true then ((spec_l1In.f a2 0 (wrap64 (15 - a1))).bind fun t344 => (if t344 = true then ((spec_l2Chain.f k a0 a1 a2).bind fun t345 => (some (t345, true))) else (some ((⟨#[]⟩ : ByteArray), false)))) else (some ((⟨#[]⟩ : ByteArray), false))) = some (r1, r2) := H
  have A5 := Aside0.mk A50
  clear A50
  by_cases c6 : t343 = true
  ·subst c6
   have H1 : ((spec_l1In.f a2 0 (wrap64 (15 - a1))).bind fun t344 => (if t344 = true then ((spec_l2Chain.f k a0 a1 a2).bind fun t345 => (some (t345, true))) else (some ((⟨#[]⟩ : ByteArray), false)))) = some (r1, r2) := by rw [if_pos rfl] at H; exact H
   clear H
   have H := H1
   clear H1
   replace H := Option.bind_eq_some_iff.mp H
   obtain ⟨t344, A70, H⟩ := H
   replace H : (if t344 = true then ((spec_l2Chain.f k a0 a1 a2).bind fun t345 => (some (t345, true))) else (some ((⟨#[]⟩ : ByteArray), false))) = some (r1, r2) := H
   have A7 := Aside0.mk A70
   clear A70
   by_cases c8 : t344 = true
   ·subst c8
    have H1 : ((spec_l2Chain.f k a0 a1 a2).bind fun t345 => (some (t345, true))) = some (r1, r2) := by rw [if_pos rfl] at H; exact H
    clear H
    have H := H1
    clear H1
    replace H := Option.bind_eq_some_iff.mp H
    obtain ⟨t345, A90, H⟩ := H
    replace H : (some (t345, true)) = some (r1, r2) := H
    have A9 := Aside0.mk A90
    clear A90
    simp only [Option.some.injEq, Prod.mk.injEq] at H
    obtain ⟨rfl, rfl⟩ := H
    go_enter Try.func27, Try.ntmps27
    go_wp2_with (first | (go_at_call 106; (with_reducible refine (spec_l1In.calls a1 0 15 true _ A5.out).mono ?_); rintro e w' ⟨rfl, ⟨nd, rfl⟩⟩) | (go_at_call 106; (with_reducible refine (spec_l1In.calls a2 0 (wrap64 (15 - a1)) true _ A7.out).mono ?_); rintro e w' ⟨rfl, ⟨nd, rfl⟩⟩) | ((with_reducible refine gate_callee (f := 107) rfl ?_); refine goesL_ (some 26) rfl rfl Try.func107 (by kernel_rfl) rfl #[.string a0, .int .i64 a1, .int .i64 a2] rfl (by (try simp only [List.map_toArray, List.map_cons, List.map_nil]); first | done | rfl | (simp only [List.length_drop, List.length_take]; rfl)) ?_; (with_reducible refine (spec_l2Chain.calls k a0 a1 a2 t345 _ A9.out).mono ?_); rintro e w10 ⟨rfl, hb⟩; refine ⟨_, rfl, ?_⟩; have n0_ := Aside0.mk (below_step (by repeat (first | (with_reducible first | exact HB.out | apply below_alloc | apply pw_below_drewN | apply below_drew1) | exact HB.out)) hb); clear HB; have HB := n0_; clear n0_; (try clear hb); (try clear hb2); (try clear hk); (try clear hi)))
    go_ret2
    exact ⟨by first | rfl | (simp [errW_none, errW_some] <;> rfl) | (simp [*, errW_none, errW_some] <;> rfl), by repeat (first | (with_reducible first | exact HB.out | apply below_alloc | apply pw_below_drewN | apply below_drew1) | exact HB.out)⟩
   ·replace c8 := Bool.eq_false_iff.mpr c8
    subst c8
    have H1 : (some ((⟨#[]⟩ : ByteArray), false)) = some (r1, r2) := by rw [if_neg (show ¬ (false = true) by decide)] at H; exact H
    clear H
    have H := H1
    clear H1
    simp only [Option.some.injEq, Prod.mk.injEq] at H
    obtain ⟨rfl, rfl⟩ := H
    go_enter Try.func27, Try.ntmps27
    go_wp2_with (first | (go_at_call 106; (with_reducible refine (spec_l1In.calls a1 0 15 true _ A5.out).mono ?_); rintro e w' ⟨rfl, ⟨nd, rfl⟩⟩) | (go_at_call 106; (with_reducible refine (spec_l1In.calls a2 0 (wrap64 (15 - a1)) false _ A7.out).mono ?_); rintro e w' ⟨rfl, ⟨nd, rfl⟩⟩))
    go_ret2
    exact ⟨by first | rfl | (simp [errW_none, errW_some] <;> rfl) | (simp [*, errW_none, errW_some] <;> rfl), by repeat (first | (with_reducible first | exact HB.out | apply below_alloc | apply pw_below_drewN | apply below_drew1) | exact HB.out)⟩
  ·replace c6 := Bool.eq_false_iff.mpr c6
   subst c6
   have H1 : (some ((⟨#[]⟩ : ByteArray), false)) = some (r1, r2) := by rw [if_neg (show ¬ (false = true) by decide)] at H; exact H
   clear H
   have H := H1
   clear H1
   simp only [Option.some.injEq, Prod.mk.injEq] at H
   obtain ⟨rfl, rfl⟩ := H
   go_enter Try.func27, Try.ntmps27
   go_wp2_with (first | (go_at_call 106; (with_reducible refine (spec_l1In.calls a1 0 15 false _ A5.out).mono ?_); rintro e w' ⟨rfl, ⟨nd, rfl⟩⟩))
   go_ret2
   exact ⟨by first | rfl | (simp [errW_none, errW_some] <;> rfl) | (simp [*, errW_none, errW_some] <;> rfl), by repeat (first | (with_reducible first | exact HB.out | apply below_alloc | apply pw_below_drewN | apply below_drew1) | exact HB.out)⟩
 ·rw [if_neg c4] at H
  have c4b0 : ((a0.size : Int) == 4) = false := beq_eq_false_iff_ne.mpr c4
  have c4b1 : ((a0.size : Int) != 4) = true := bne_iff_ne.mpr c4
  simp only [Option.some.injEq, Prod.mk.injEq] at H
  obtain ⟨rfl, rfl⟩ := H
  go_enter Try.func27, Try.ntmps27
  go_wp2
  go_ret2
  exact ⟨by first | rfl | (simp [errW_none, errW_some] <;> rfl) | (simp [*, errW_none, errW_some] <;> rfl), by repeat (first | (with_reducible first | exact HB.out | apply below_alloc | apply pw_below_drewN | apply below_drew1) | exact HB.out)⟩
def laws_numberOf.l0 : Nat → Int → List Int → Int → Int → Option (Int)
 | 0, _, _, _, _ => none
 | k + 1, x3, x6, x7, x8 => if x8 < x7 then (if 0 ≤ x8 then (if x8 < (x6.length : Int) then (laws_numberOf.l0 k (Int.tmod (wrap64 ((wrap64 (31 * x3)) + (wrap64 (rd x6 x8)))) 1000003) x6 x7 (wrap64 (x8 + 1))) else (none)) else (none)) else (some x3)
def laws_numberOf.f (k : Nat) (l0 : List Int) : Option (Int) := laws_numberOf.l0 k 0 l0 (l0.length : Int) 0
set_option maxHeartbeats 8000000 in
set_option maxRecDepth 100000 in
theorem laws_numberOf.calls (k : Nat) (A0 : Option Addr) (c0 : Nat) (l0 : List Int) (r : Int) (w : World) (hr0 : Kd.C (Kd.int .u8) w A0 l0.length l0) (hc0 : l0.length ≤ c0) (h : laws_numberOf.f k l0 = some r) :
  Calls Try.prog 28 #[.slice A0 l0.length c0] w fun e w' => e = .returned (.int .i64 r) ∧ Drawn0 w w' := by
 have HR0 := Aside0.mk hr0
 have HC0 := Aside0.mk hc0
 clear hr0 hc0
 have H : (laws_numberOf.l0 k 0 l0 (l0.length : Int) 0) = some r := h
 clear h
 have H' := Aside0.mk H
 clear H
 go_enter Try.func28, Try.ntmps28
 go_wp2
 go_loopg [3, 8] k (fun kq v3 v8 w' => ∃ (x3_1 : Int) (x8_1 : Int), v3 = .int .i64 x3_1 ∧ v8 = .int .i64 x8_1 ∧ Aside0 (laws_numberOf.l0 kq x3_1 l0 (l0.length : Int) x8_1 = some r) ∧ Aside0 (kq ≤ k) ∧ Drawn0 w w')
 case atStart => exact ⟨(0), (0), (by first | rfl | (simp; done) | (simp [*]; done) | (simp [bne]; done)), (by first | rfl | (simp; done) | (simp [*]; done) | (simp [bne]; done)), H', ⟨Nat.le_refl _⟩, by repeat (first | exact Drawn0.refl _ | apply Drawn0.step)⟩
 case round =>
  clear H'
  obtain ⟨x3_1, x8_1, rfl, rfl, HA, HK1, ⟨m1, rfl⟩⟩ := hrel
  cases gk with
  | zero => exact absurd HA.out (by simp [laws_numberOf.l0])
  | succ k1 =>
   have H := HA.out
   clear HA
   simp only [laws_numberOf.l0] at H
   by_cases c2 : x8_1 < (l0.length : Int)
   ·rw [if_pos c2] at H
    have c2b0 : decide (x8_1 < (l0.length : Int)) = true := decide_eq_true c2
    clear c2
    by_cases c3 : 0 ≤ x8_1
    ·rw [if_pos c3] at H
     have c3b0 : decide (0 ≤ x8_1) = true := decide_eq_true c3
     clear c3
     by_cases c4 : x8_1 < (l0.length : Int)
     ·rw [if_pos c4] at H
      have c4b0 : decide (x8_1 < (l0.length : Int)) = true := decide_eq_true c4
      clear c4
      have H' := Aside0.mk H
      clear H
      have p346 : 0 ≤ (x8_1 : Int) := of_decide_eq_true (by first | (with_reducible assumption) | assumption)
      have q346 : x8_1 < (l0.length : Int) := of_decide_eq_true (by first | (with_reducible assumption) | assumption)
      obtain ⟨ad346, e346, hx346_0⟩ := Kd.at_int HR0.out x8_1 p346 q346
      cases e346
      replace p346 := eq_true p346
      replace q346 := eq_true q346
      go_wp2
      go_roundg k1
      case measure => have := HK1.out; omega
      case rel => exact ⟨(Int.tmod (wrap64 ((wrap64 (31 * x3_1)) + (wrap64 (rd l0 x8_1)))) 1000003), (wrap64 (x8_1 + 1)), (by first | rfl | (simp; done) | (simp [*]; done) | (simp [bne]; done)), (by first | rfl | (simp; done) | (simp [*]; done) | (simp [bne]; done)), H', ⟨by have := HK1.out; omega⟩, by repeat (first | exact Drawn0.refl _ | apply Drawn0.step)⟩
     ·rw [if_neg c4] at H
      exact absurd H (by simp)
    ·rw [if_neg c3] at H
     exact absurd H (by simp)
   ·rw [if_neg c2] at H
    have c2b0 : decide (x8_1 < (l0.length : Int)) = false := decide_eq_false c2
    clear c2
    obtain rfl := Option.some.inj H
    go_wp2
    go_ret
    exact ⟨by first | rfl | (simp; done) | (simp [*]; done) | (simp [bne]; done), by repeat (first | exact Drawn0.refl _ | apply Drawn0.step)⟩
def spec_l1Least.f (a0 : Int) (a1 : Int) : Option (Int) := if a0 < a1 then (some a0) else (some a1)
set_option maxHeartbeats 8000000 in
set_option maxRecDepth 100000 in
theorem spec_l1Least.calls (a0 : Int) (a1 : Int) (r : Int) (w : World) (h : spec_l1Least.f a0 a1 = some r) :
  Calls Try.prog 109 #[.int .i64 a0, .int .i64 a1] w fun e w' => e = .returned (.int .i64 r) ∧ Drawn0 w w' := by
 have H : (if a0 < a1 then (some a0) else (some a1)) = some r := h
 clear h
 by_cases c3 : a0 < a1
 ·rw [if_pos c3] at H
  have c3b0 : decide (a0 < a1) = true := decide_eq_true c3
  clear c3
  obtain rfl := Option.some.inj H
  go_enter Try.func109, Try.ntmps109
  go_wp2
  go_ret
  exact ⟨by first | rfl | (simp; done) | (simp [*]; done) | (simp [bne]; done), by repeat (first | exact Drawn0.refl _ | apply Drawn0.step)⟩
 ·rw [if_neg c3] at H
  have c3b0 : decide (a0 < a1) = false := decide_eq_false c3
  clear c3
  obtain rfl := Option.some.inj H
  go_enter Try.func109, Try.ntmps109
  go_wp2
  go_ret
  exact ⟨by first | rfl | (simp; done) | (simp [*]; done) | (simp [bne]; done), by repeat (first | exact Drawn0.refl _ | apply Drawn0.step)⟩
def spec_l1Cur_among.f (s0_0 : List Int) (s0_1 : Int) (s0_2 : Int) (l1 : List Int) : Option (Int × Int × Int) := (spec_l1Cur_pick.f s0_0 s0_1 s0_2 (l1.length : Int)).bind fun bt347 => (if 0 ≤ bt347.1 then (if bt347.1 < (l1.length : Int) then (some (rd l1 bt347.1, bt347.2.1, bt347.2.2)) else (none)) else (none))
set_option maxHeartbeats 8000000 in
set_option maxRecDepth 100000 in
theorem spec_l1Cur_among.calls (g : Nat) (s0_0 : List Int) (s0_1 : Int) (s0_2 : Int) (A1 : Option Addr) (c1 : Nat) (l1 : List Int) (r1 : Int) (r2 : Int) (r3 : Int) (w0 w : World) (hI : IsS122 w0 w g s0_0 s0_1 s0_2) (hB : Below w0.heap.size w0 w) (hr1 : Kd.C (Kd.int .i64) w A1 l1.length l1) (hc1 : l1.length ≤ c1) (hf1 : ∀ ad, A1 = some ad → 0 < l1.length → ad.block ≠ g) (h : spec_l1Cur_among.f s0_0 s0_1 s0_2 l1 = some (r1, r2, r3)) :
  Calls Try.prog 110 #[.pointer (some ⟨g, 0, none⟩), .slice A1 l1.length c1] w fun e w' => e = .returned (.int .i64 r1) ∧ IsS122 w0 w' g s0_0 r2 r3 ∧ Below w0.heap.size w0 w' ∧ KeepBut w w' g none := by
 have HR1 := Aside0.mk hr1
 have HC1 := Aside0.mk hc1
 clear hr1 hc1
 have HI0 := Aside0.mk hI
 have HK := Aside0.mk (KeepBut.refl w g none)
 have HL := Aside0.mk hB.size
 clear hI
 have HW0 := Aside0.mk hB.size
 have HB := Aside0.mk hB
 clear hB
 have H : ((spec_l1Cur_pick.f s0_0 s0_1 s0_2 (l1.length : Int)).bind fun bt347 => (if 0 ≤ bt347.1 then (if bt347.1 < (l1.length : Int) then (some (rd l1 bt347.1, bt347.2.1, bt347.2.2)) else (none)) else (none))) = some (r1, r2, r3) := h
 clear h
 replace H := Option.bind_eq_some_iff.mp H
 obtain ⟨⟨t347, t348, t349⟩, A30, H⟩ := H
 replace H : (if 0 ≤ t347 then (if t347 < (l1.length : Int) then (some (rd l1 t347, t348, t349)) else (none)) else (none)) = some (r1, r2, r3) := H
 have A3 := Aside0.mk A30
 clear A30
 by_cases c4 : 0 ≤ t347
 ·rw [if_pos c4] at H
  have c4b0 : decide (0 ≤ t347) = true := decide_eq_true c4
  clear c4
  by_cases c5 : t347 < (l1.length : Int)
  ·rw [if_pos c5] at H
   have c5b0 : decide (t347 < (l1.length : Int)) = true := decide_eq_true c5
   clear c5
   simp only [Option.some.injEq, Prod.mk.injEq] at H
   obtain ⟨rfl, rfl, rfl⟩ := H
   go_enter Try.func110, Try.ntmps110
   go_wp2_with (first | ((with_reducible refine gate_callee (f := 102) rfl ?_); refine goesL_ (some 9) rfl rfl Try.func102 (by kernel_rfl) rfl #[.pointer (some ⟨g, 0, none⟩), .int .i64 (l1.length : Int)] rfl (by (try simp only [List.map_toArray, List.map_cons, List.map_nil]); first | done | rfl | (simp only [List.length_drop, List.length_take]; rfl)) ?_; (with_reducible refine (spec_l1Cur_pick.calls g s0_0 s0_1 s0_2 (l1.length : Int) t347 t348 t349 w0 _ ?side1 ?side2 A3.out).mono ?_); (case side1 => repeat (first | (with_reducible first | exact HI0.out | apply IsS122.alloc | apply IsS122.drewN | apply IsS122.drew | apply IsS122.set_1 | apply IsS122.set_2) | exact HI0.out)); (case side2 => repeat (first | (with_reducible first | exact HB.out | apply below_alloc | apply pw_below_drewN | apply below_drew1 | refine below_set ?_ (IsS122.ge HI0.out)) | exact HB.out)); rintro e w6 ⟨rfl, hi, hb, hk⟩; refine ⟨_, rfl, ?_⟩; have n0_ := Aside0.mk (KeepBut.trans (by repeat (first | (with_reducible first | exact HK.out | apply KeepBut.set_ | apply keep_drewN | apply keep_drew | apply keep_alloc) | exact HK.out)) hk (.inl rfl)); have n1_ := Aside0.mk (hb); have n2_ := Aside0.mk (hi); clear HK; clear HB; clear HI0; have HK := n0_; have HB := n1_; have HI0 := n2_; clear n0_ n1_ n2_; (try clear hb); (try clear hb2); (try clear hk); (try clear hi); have p350 : 0 ≤ (t347 : Int) := of_decide_eq_true (by first | (with_reducible assumption) | assumption); have q350 : t347 < (l1.length : Int) := of_decide_eq_true (by first | (with_reducible assumption) | assumption); obtain ⟨ad350, e350, hx350_0⟩ := Kd.at_int HR1.out t347 p350 q350; cases e350; replace hx350_0 := keep_cell HK.out hx350_0 (by first | (rw [add_block]; exact hf1 _ rfl (by omega)) | exact hf1 _ rfl (by omega) | exact hf1 ad350 rfl (by omega)); replace p350 := eq_true p350; replace q350 := eq_true q350))
   go_ret
   exact ⟨by first | rfl | (simp [errW_none, errW_some] <;> rfl) | (simp [*, errW_none, errW_some] <;> rfl), by repeat (first | (with_reducible first | exact HI0.out | apply IsS122.alloc | apply IsS122.drewN | apply IsS122.drew | apply IsS122.set_1 | apply IsS122.set_2) | exact HI0.out), by repeat (first | (with_reducible first | exact HB.out | apply below_alloc | apply pw_below_drewN | apply below_drew1 | refine below_set ?_ (IsS122.ge HI0.out)) | exact HB.out), by repeat (first | (with_reducible first | exact HK.out | apply KeepBut.set_ | apply keep_drewN | apply keep_drew | apply keep_alloc) | exact HK.out)⟩
  ·rw [if_neg c5] at H
   exact absurd H (by simp)
 ·rw [if_neg c4] at H
  exact absurd H (by simp)
end Go.Proofs.Ytfajabboibcgpaa.PA
end
section
namespace Go.Proofs.Ytfajabboibcgpaa.PA
open Go.RowKit Go.Proofs.YtfajabboibcgpaaW.PrintWords Go.Proofs.YtfajabboibcgpaaW.PrintLast Go.Proofs.YtfajabboibcgpaaW.PrintMore
attribute [local go_sem] max2_int min2_int max_two min_two max_three min_three max_four min_four   -- for this text's walks alone
set_option linter.unusedVariables false
set_option linter.unusedSimpArgs false
mutual
def spec_DrawIsBelow.j0 : Nat → List Int → List Int → Bool → List Int → Int → Int → Option (List Int × List Int)
 | 0, _, _, _, _, _, _ => none
 | k + 1, x5, x7, x38, x352000, x352001, x352002 => if x38 = true then (spec_DrawIsBelow.l0 k x5 x7 (x5.length : Int) 0 x352000 x352001 x352002) else (spec_DrawIsBelow.j2 k x5 x7 x352000 x352001 x352002)
def spec_DrawIsBelow.j2 : Nat → List Int → List Int → List Int → Int → Int → Option (List Int × List Int)
 | 0, _, _, _, _, _ => none
 | k + 1, x5, x7, x352000, x352001, x352002 => if (x5.length : Int) > 0 then ((spec_l1Cur_one.f x352000 x352001 x352002 12).bind fun bt373 => (if bt373.1 = true then ((spec_l1Cur_among.f x352000 bt373.2.1 bt373.2.2 (([(-1), 15, 16] : List Int))).bind fun bt379 => (if 0 < (x5.length : Int) then (some ((x5.set (0 : Int).toNat bt379.1), x7)) else (none))) else (some (x5, x7)))) else (some (x5, x7))
def spec_DrawIsBelow.l0 : Nat → List Int → List Int → Int → Int → List Int → Int → Int → Option (List Int × List Int)
 | 0, _, _, _, _, _, _, _ => none
 | k + 1, x5, x7, x40, x41, x352000, x352001, x352002 => if x41 < x40 then (if 0 ≤ x41 then (if x41 < (x5.length : Int) then (if x41 < (x7.length : Int) then ((spec_l1Least.f (rd x5 x41) (rd x7 x41)).bind fun t371 => (spec_DrawIsBelow.l0 k (x5.set (x41 : Int).toNat t371) x7 x40 (wrap64 (x41 + 1)) x352000 x352001 x352002)) else (none)) else (none)) else (none)) else (spec_DrawIsBelow.j2 k x5 x7 x352000 x352001 x352002)
end
def spec_DrawIsBelow.f (k : Nat) (l0 : List Int) : Option (List Int × List Int) := (spec_l1Cur_message.f l0 0 0).bind fun bt352 => ((spec_DigitsOf.f k bt352.1).bind fun bt355 => ((spec_l1Cur_message.f l0 bt352.2.1 bt352.2.2).bind fun bt359 => ((spec_DigitsOf.f k bt359.1).bind fun bt362 => (if (bt355.1.length : Int) > 0 then (if (bt362.1.length : Int) = (bt355.1.length : Int) then ((spec_l1Cur_one.f l0 bt359.2.1 bt359.2.2 3).bind fun bt366 => (spec_DrawIsBelow.j0 k bt355.1 bt362.1 bt366.1 l0 bt366.2.1 bt366.2.2)) else (spec_DrawIsBelow.j0 k bt355.1 bt362.1 false l0 bt359.2.1 bt359.2.2)) else (spec_DrawIsBelow.j0 k bt355.1 bt362.1 false l0 bt359.2.1 bt359.2.2)))))
def spec_DrawIsBelow.T8 : Bool × List (List Nat × List Nat) := (true, [([], []), ([], []), ([], []), ([], []), ([2, 3], [2, 3]), ([4], [4]), ([], []), ([], []), ([6, 7], [6, 7]), ([8], [8]), ([5, 9], [5, 9]), ([0, 1, 0, 1, 2, 3, 4, 5, 6, 7, 8, 9, 10], [0, 1]), ([11, 10, 10, 0, 1, 2, 3, 4, 5, 6, 7, 8, 9, 10], [10, 11])])
def spec_DrawIsBelow.B8 : List Nat := [0, 0, 0, 0, 12, 28, 0, 0, 192, 448, 1020, 2047, 4095]
theorem spec_DrawIsBelow.tab8 : rtab .any (opsOf Try.f29 8) = spec_DrawIsBelow.T8 := by kernel_rfl
theorem spec_DrawIsBelow.bits8 : waitsOk spec_DrawIsBelow.T8.2 spec_DrawIsBelow.B8 = true := by kernel_rfl
set_option maxHeartbeats 8000000 in
set_option maxRecDepth 100000 in
theorem spec_DrawIsBelow.calls (k : Nat) (A0 : Option Addr) (c0 : Nat) (l0 : List Int) (r1 : List Int) (r2 : List Int) (w : World) (hr0 : Kd.C (Kd.int .u8) w A0 l0.length l0) (hc0 : l0.length ≤ c0) (h : spec_DrawIsBelow.f k l0 = some (r1, r2)) :
  Calls Try.prog 29 #[.slice A0 l0.length c0] w fun e w' => ∃ v0_ v1_ : Value, e = .returned (.tuple #[v0_, v1_]) ∧ Kd.R (Kd.int .i64) 3 w' w.heap.size (fun k_ => some k_ ≠ (v1_ : Value).ownBlock) v0_ r1 ∧ Kd.R (Kd.int .i64) 3 w' w.heap.size (fun k_ => some k_ ≠ (v0_ : Value).ownBlock) v1_ r2 ∧ Below w.heap.size w w' := by
 have hu122 := Try.underlying122
 have HR0 := Aside0.mk hr0
 have HC0 := Aside0.mk hc0
 clear hr0 hc0
 have HB := Aside0.mk (Below.refl w.heap.size w)
 have H : ((spec_l1Cur_message.f l0 0 0).bind fun bt352 => ((spec_DigitsOf.f k bt352.1).bind fun bt355 => ((spec_l1Cur_message.f l0 bt352.2.1 bt352.2.2).bind fun bt359 => ((spec_DigitsOf.f k bt359.1).bind fun bt362 => (if (bt355.1.length : Int) > 0 then (if (bt362.1.length : Int) = (bt355.1.length : Int) then ((spec_l1Cur_one.f l0 bt359.2.1 bt359.2.2 3).bind fun bt366 => (spec_DrawIsBelow.j0 k bt355.1 bt362.1 bt366.1 l0 bt366.2.1 bt366.2.2)) else (spec_DrawIsBelow.j0 k bt355.1 bt362.1 false l0 bt359.2.1 bt359.2.2)) else (spec_DrawIsBelow.j0 k bt355.1 bt362.1 false l0 bt359.2.1 bt359.2.2)))))) = some (r1, r2) := h
 clear h
 replace H := Option.bind_eq_some_iff.mp H
 obtain ⟨⟨t352, t353, t354⟩, A20, H⟩ := H
 replace H : ((spec_DigitsOf.f k t352).bind fun bt355 => ((spec_l1Cur_message.f l0 t353 t354).bind fun bt359 => ((spec_DigitsOf.f k bt359.1).bind fun bt362 => (if (bt355.1.length : Int) > 0 then (if (bt362.1.length : Int) = (bt355.1.length : Int) then ((spec_l1Cur_one.f l0 bt359.2.1 bt359.2.2 3).bind fun bt366 => (spec_DrawIsBelow.j0 k bt355.1 bt362.1 bt366.1 l0 bt366.2.1 bt366.2.2)) else (spec_DrawIsBelow.j0 k bt355.1 bt362.1 false l0 bt359.2.1 bt359.2.2)) else (spec_DrawIsBelow.j0 k bt355.1 bt362.1 false l0 bt359.2.1 bt359.2.2))))) = some (r1, r2) := H
 have A2 := Aside0.mk A20
 clear A20
 replace H := Option.bind_eq_some_iff.mp H
 obtain ⟨⟨t355, t356⟩, A30, H⟩ := H
 replace H : ((spec_l1Cur_message.f l0 t353 t354).bind fun bt359 => ((spec_DigitsOf.f k bt359.1).bind fun bt362 => (if (t355.length : Int) > 0 then (if (bt362.1.length : Int) = (t355.length : Int) then ((spec_l1Cur_one.f l0 bt359.2.1 bt359.2.2 3).bind fun bt366 => (spec_DrawIsBelow.j0 k t355 bt362.1 bt366.1 l0 bt366.2.1 bt366.2.2)) else (spec_DrawIsBelow.j0 k t355 bt362.1 false l0 bt359.2.1 bt359.2.2)) else (spec_DrawIsBelow.j0 k t355 bt362.1 false l0 bt359.2.1 bt359.2.2)))) = some (r1, r2) := H
 have A3 := Aside0.mk A30
 clear A30
 replace H := Option.bind_eq_some_iff.mp H
 obtain ⟨⟨t359, t360, t361⟩, A40, H⟩ := H
 replace H : ((spec_DigitsOf.f k t359).bind fun bt362 => (if (t355.length : Int) > 0 then (if (bt362.1.length : Int) = (t355.length : Int) then ((spec_l1Cur_one.f l0 t360 t361 3).bind fun bt366 => (spec_DrawIsBelow.j0 k t355 bt362.1 bt366.1 l0 bt366.2.1 bt366.2.2)) else (spec_DrawIsBelow.j0 k t355 bt362.1 false l0 t360 t361)) else (spec_DrawIsBelow.j0 k t355 bt362.1 false l0 t360 t361))) = some (r1, r2) := H
 have A4 := Aside0.mk A40
 clear A40
 replace H := Option.bind_eq_some_iff.mp H
 obtain ⟨⟨t362, t363⟩, A50, H⟩ := H
 replace H : (if (t355.length : Int) > 0 then (if (t362.length : Int) = (t355.length : Int) then ((spec_l1Cur_one.f l0 t360 t361 3).bind fun bt366 => (spec_DrawIsBelow.j0 k t355 t362 bt366.1 l0 bt366.2.1 bt366.2.2)) else (spec_DrawIsBelow.j0 k t355 t362 false l0 t360 t361)) else (spec_DrawIsBelow.j0 k t355 t362 false l0 t360 t361)) = some (r1, r2) := H
 have A5 := Aside0.mk A50
 clear A50
 have HC6 := Aside0.mk H
 clear H
 go_enter Try.func29, Try.ntmps29
 go_upto_region 4 with (first | ((with_reducible refine gate_dst (N := 12) rfl ?_); (try (refine gate_guard (by rfl) ?_; dsimp only)); refine box_event ?hg (N := 12) ?hd (cs := #[.slice A0 l0.length c0, .int .i64 0, .int .u64 0]) (t := 122) ?hr ?_; (case hd => rfl); (case hg => rfl); (case hr => first | (go_simp; done) | (go_simp; rfl)); intro gb351 hg w7 hbox hb; have n0_ := Aside0.mk (below_step (by repeat (first | (with_reducible first | exact HB.out | apply below_alloc | apply pw_below_drewN | apply below_drew1) | exact HB.out)) hb); have n1_ := Aside0.mk ((show IsS122 w w7 gb351 l0 0 0 from ⟨A0, c0, hbox, (by rw [hg]; exact (below_size (by repeat (first | (with_reducible first | exact HB.out | apply below_alloc | apply pw_below_drewN | apply below_drew1) | exact HB.out))) : w.heap.size ≤ gb351), HR0.out⟩)); clear HB; have HB := n0_; have HI351 := n1_; clear n0_ n1_; clear hb hbox hg) | ((with_reducible refine gate_callee (f := 96) rfl ?_); refine goesL_ (some 15) rfl rfl Try.func96 (by kernel_rfl) rfl #[.pointer (some ⟨gb351, 0, none⟩)] rfl (by (try simp only [List.map_toArray, List.map_cons, List.map_nil]); first | done | rfl | (simp only [List.length_drop, List.length_take]; rfl)) ?_; (with_reducible refine (spec_l1Cur_message.calls gb351 l0 0 0 t352 t353 t354 w _ ?side1 ?side2 A2.out).mono ?_); (case side1 => repeat (first | (with_reducible first | exact HI351.out | apply IsS122.alloc | apply IsS122.drewN | apply IsS122.drew | apply IsS122.set_1 | apply IsS122.set_2) | exact HI351.out)); (case side2 => repeat (first | (with_reducible first | exact HB.out | apply below_alloc | apply pw_below_drewN | apply below_drew1 | refine below_set ?_ (IsS122.ge HI351.out)) | exact HB.out)); rintro e w8 ⟨rfl, hi, hb, hk⟩; refine ⟨_, rfl, ?_⟩; have n0_ := Aside0.mk (hb); have n1_ := Aside0.mk (hi); clear HB; clear HI351; have HB := n0_; have HI351 := n1_; clear n0_ n1_; (try clear hb); (try clear hb2); (try clear hk); (try clear hi)) | ((with_reducible refine gate_callee (f := 22) rfl ?_); refine goesL_ (some 16) rfl rfl Try.func22 (by kernel_rfl) rfl #[.string t352] rfl (by (try simp only [List.map_toArray, List.map_cons, List.map_nil]); first | done | rfl | (simp only [List.length_drop, List.length_take]; rfl)) ?_; (with_reducible refine (spec_DigitsOf.calls k t352 t355 t356 _ A3.out).mono ?_); rintro e w9 ⟨v357, rfl, ho0, hb⟩; refine ⟨_, rfl, ?_⟩; have n0_ := Aside0.mk (Kd.R_lower ho0 (below_size (by repeat (first | (with_reducible first | exact HB.out | apply below_alloc | apply pw_below_drewN | apply below_drew1 | refine below_set ?_ (IsS122.ge HI351.out)) | exact HB.out)))); have n1_ := Aside0.mk (IsS122.below (by repeat (first | (with_reducible first | exact HI351.out | apply IsS122.alloc | apply IsS122.drewN | apply IsS122.drew | apply IsS122.set_1 | apply IsS122.set_2) | exact HI351.out)) hb); have n2_ := Aside0.mk (below_step (by repeat (first | (with_reducible first | exact HB.out | apply below_alloc | apply pw_below_drewN | apply below_drew1 | refine below_set ?_ (IsS122.ge HI351.out)) | exact HB.out)) hb); clear HI351; clear HB; have HO358 := n0_; have HI351 := n1_; have HB := n2_; clear n0_ n1_ n2_; (try clear hb); (try clear hb2); (try clear hk); (try clear hi); (try clear ho0)) | ((with_reducible refine gate_callee (f := 96) rfl ?_); refine goesL_ (some 21) rfl rfl Try.func96 (by kernel_rfl) rfl #[.pointer (some ⟨gb351, 0, none⟩)] rfl (by (try simp only [List.map_toArray, List.map_cons, List.map_nil]); first | done | rfl | (simp only [List.length_drop, List.length_take]; rfl)) ?_; (with_reducible refine (spec_l1Cur_message.calls gb351 l0 t353 t354 t359 t360 t361 w _ ?side1 ?side2 A4.out).mono ?_); (case side1 => repeat (first | (with_reducible first | exact HI351.out | apply IsS122.alloc | apply IsS122.drewN | apply IsS122.drew | apply IsS122.set_1 | apply IsS122.set_2) | exact HI351.out)); (case side2 => repeat (first | (with_reducible first | exact HB.out | apply below_alloc | apply pw_below_drewN | apply below_drew1 | refine below_set ?_ (IsS122.ge HI351.out)) | exact HB.out)); rintro e w10 ⟨rfl, hi, hb, hk⟩; refine ⟨_, rfl, ?_⟩; have n0_ := Aside0.mk (Kd.R_mono (Kd.R_keep (IsS122.apart (show IsS122 w _ gb351 l0 t353 t354 from by repeat (first | (with_reducible first | exact HI351.out | apply IsS122.alloc | apply IsS122.drewN | apply IsS122.drew | apply IsS122.set_1 | apply IsS122.set_2) | exact HI351.out)) (by (with_reducible repeat (first | apply Kd.R_alloc | apply Kd.R_drewN | apply Kd.R_drew)); exact HO358.out) (by decide)) hk (fun _ h => h.2)) (fun _ h => h.1)); have n1_ := Aside0.mk (hb); have n2_ := Aside0.mk (hi); clear HO358; clear HB; clear HI351; have HO358 := n0_; have HB := n1_; have HI351 := n2_; clear n0_ n1_ n2_; (try clear hb); (try clear hb2); (try clear hk); (try clear hi)) | ((with_reducible refine gate_callee (f := 22) rfl ?_); refine goesL_ (some 22) rfl rfl Try.func22 (by kernel_rfl) rfl #[.string t359] rfl (by (try simp only [List.map_toArray, List.map_cons, List.map_nil]); first | done | rfl | (simp only [List.length_drop, List.length_take]; rfl)) ?_; (with_reducible refine (spec_DigitsOf.calls k t359 t362 t363 _ A5.out).mono ?_); rintro e w11 ⟨v364, rfl, ho0, hb⟩; refine ⟨_, rfl, ?_⟩; have n0_ := Aside0.mk (Kd.R_elder' (by (with_reducible repeat (first | apply Kd.R_alloc | apply Kd.R_drewN | apply Kd.R_drew)); exact HO358.out) (Kd.R_base ho0) hb); have n1_ := Aside0.mk (Kd.R_lower (Kd.R_new' ho0 (Kd.R_lt (by (with_reducible repeat (first | apply Kd.R_alloc | apply Kd.R_drewN | apply Kd.R_drew)); exact HO358.out))) (below_size (by repeat (first | (with_reducible first | exact HB.out | apply below_alloc | apply pw_below_drewN | apply below_drew1 | refine below_set ?_ (IsS122.ge HI351.out)) | exact HB.out)))); have n2_ := Aside0.mk (IsS122.below (by repeat (first | (with_reducible first | exact HI351.out | apply IsS122.alloc | apply IsS122.drewN | apply IsS122.drew | apply IsS122.set_1 | apply IsS122.set_2) | exact HI351.out)) hb); have n3_ := Aside0.mk (below_step (by repeat (first | (with_reducible first | exact HB.out | apply below_alloc | apply pw_below_drewN | apply below_drew1 | refine below_set ?_ (IsS122.ge HI351.out)) | exact HB.out)) hb); clear HO358; clear HI351; clear HB; have HO358 := n0_; have HO365 := n1_; have HI351 := n2_; have HB := n3_; clear n0_ n1_ n2_ n3_; (try clear hb); (try clear hb2); (try clear hk); (try clear hi); (try clear ho0)))
 (try simp only [Act.put, List.setIfInBounds_toArray, List.set_cons_zero, List.set_cons_succ])
 go_cut [38] (fun v38 wc => ∃ (kq : Nat) (x38_5 : Bool) (x352001_5 : Int) (x352002_5 : Int), v38 = .bool x38_5 ∧ Aside0 (spec_DrawIsBelow.j0 kq t355 t362 x38_5 l0 x352001_5 x352002_5 = some (r1, r2)) ∧ Aside0 (kq ≤ k) ∧ Aside0 (Kd.R (Kd.int .i64) 3 wc w.heap.size (fun k_ => some k_ ≠ (v364 : Value).ownBlock) v357 t355) ∧ Aside0 (Kd.R (Kd.int .i64) 3 wc w.heap.size (fun k_ => some k_ ≠ (v357 : Value).ownBlock) v364 t362) ∧ Aside0 (IsS122 w wc gb351 l0 x352001_5 x352002_5) ∧ Aside0 (Below w.heap.size w wc))
 case first =>
  have H := HC6.out
  clear HC6
  by_cases c12 : (t355.length : Int) > 0
  ·rw [if_pos c12] at H
   have c12b0 : decide (0 < (t355.length : Int)) = true := decide_eq_true c12
   have c12b1 : decide (0 < t355.length) = true := decide_eq_true (by omega)
   clear c12
   (first | rw [c12b0] | (simp only [i64_w, i32_w]; rw [c12b0]) | skip)
   by_cases c13 : (t362.length : Int) = (t355.length : Int)
   ·rw [if_pos c13] at H
    have c13b0 : ((t362.length : Int) == (t355.length : Int)) = true := beq_iff_eq.mpr c13
    have c13b1 : ((t362.length : Int) != (t355.length : Int)) = false := bne_eq_false_iff_eq.mpr c13
    have c13b2 : (t362.length == t355.length) = true := by first | simpa using c13 | (simp at c13 ⊢; omega)
    clear c13
    replace H := Option.bind_eq_some_iff.mp H
    obtain ⟨⟨t366, t367, t368⟩, A140, H⟩ := H
    replace H : (spec_DrawIsBelow.j0 k t355 t362 t366 l0 t367 t368) = some (r1, r2) := H
    have A14 := Aside0.mk A140
    clear A140
    have H' := Aside0.mk H
    clear H
    obtain ⟨Ao15, co15, eo15⟩ := Kd.R_slice HO358.out
    subst eo15
    obtain ⟨Ao16, co16, eo16⟩ := Kd.R_slice HO365.out
    subst eo16
    go_wp2_with (first | (go_at_call 108; (with_reducible refine (spec_l1Cur_one.calls gb351 l0 t360 t361 3 t366 t367 t368 w _ ?side1 ?side2 A14.out).mono ?_); (case side1 => repeat (first | (with_reducible first | exact HI351.out | apply IsS122.alloc | apply IsS122.drewN | apply IsS122.drew | apply IsS122.set_1 | apply IsS122.set_2) | exact HI351.out)); (case side2 => repeat (first | (with_reducible first | exact HB.out | apply below_alloc | apply pw_below_drewN | apply below_drew1 | refine below_set ?_ (IsS122.ge HI351.out)) | exact HB.out)); rintro e w17 ⟨rfl, hi, hb, hk⟩; have n0_ := Aside0.mk (Kd.R_mono (Kd.R_keep (IsS122.apart (show IsS122 w _ gb351 l0 t360 t361 from by repeat (first | (with_reducible first | exact HI351.out | apply IsS122.alloc | apply IsS122.drewN | apply IsS122.drew | apply IsS122.set_1 | apply IsS122.set_2) | exact HI351.out)) (by (with_reducible repeat (first | apply Kd.R_alloc | apply Kd.R_drewN | apply Kd.R_drew)); exact HO358.out) (by decide)) hk (fun _ h => h.2)) (fun _ h => h.1)); have n1_ := Aside0.mk (Kd.R_mono (Kd.R_keep (IsS122.apart (show IsS122 w _ gb351 l0 t360 t361 from by repeat (first | (with_reducible first | exact HI351.out | apply IsS122.alloc | apply IsS122.drewN | apply IsS122.drew | apply IsS122.set_1 | apply IsS122.set_2) | exact HI351.out)) (by (with_reducible repeat (first | apply Kd.R_alloc | apply Kd.R_drewN | apply Kd.R_drew)); exact HO365.out) (by decide)) hk (fun _ h => h.2)) (fun _ h => h.1)); have n2_ := Aside0.mk (hb); have n3_ := Aside0.mk (hi); clear HO358; clear HO365; clear HB; clear HI351; have HO358 := n0_; have HO365 := n1_; have HB := n2_; have HI351 := n3_; clear n0_ n1_ n2_ n3_; (try clear hb); (try clear hb2); (try clear hk); (try clear hi)))
    go_meet
    case rel => exact ⟨_, (t366), (t367), (t368), (by first | rfl | (simp; done) | (simp [*]; done) | (simp [bne]; done)), H', ⟨by first | omega | exact Nat.le_refl _⟩, ⟨by (with_reducible repeat (first | apply Kd.R_alloc | apply Kd.R_drewN | apply Kd.R_drew)); exact Kd.R_mono HO358.out (fun _ hk => hk.2)⟩, ⟨by (with_reducible repeat (first | apply Kd.R_alloc | apply Kd.R_drewN | apply Kd.R_drew)); exact Kd.R_mono HO365.out (fun _ hk => hk.2)⟩, ⟨by repeat (first | (with_reducible first | exact HI351.out | apply IsS122.alloc | apply IsS122.drewN | apply IsS122.drew | apply IsS122.set_1 | apply IsS122.set_2) | exact HI351.out)⟩, ⟨by repeat (first | (with_reducible first | exact HB.out | apply below_alloc | apply pw_below_drewN | apply below_drew1 | refine below_set ?_ (IsS122.ge HI351.out)) | exact HB.out)⟩⟩
   ·rw [if_neg c13] at H
    have c13b0 : ((t362.length : Int) == (t355.length : Int)) = false := beq_eq_false_iff_ne.mpr c13
    have c13b1 : ((t362.length : Int) != (t355.length : Int)) = true := bne_iff_ne.mpr c13
    have c13b2 : (t362.length == t355.length) = false := by first | simpa using c13 | (simp at c13 ⊢; omega)
    have H' := Aside0.mk H
    clear H
    obtain ⟨Ao18, co18, eo18⟩ := Kd.R_slice HO358.out
    subst eo18
    obtain ⟨Ao19, co19, eo19⟩ := Kd.R_slice HO365.out
    subst eo19
    go_wp2
    go_meet
    case rel => exact ⟨_, (false), (t360), (t361), (by first | rfl | (simp; done) | (simp [*]; done) | (simp [bne]; done)), H', ⟨by first | omega | exact Nat.le_refl _⟩, ⟨by (with_reducible repeat (first | apply Kd.R_alloc | apply Kd.R_drewN | apply Kd.R_drew)); exact Kd.R_mono HO358.out (fun _ hk => hk.2)⟩, ⟨by (with_reducible repeat (first | apply Kd.R_alloc | apply Kd.R_drewN | apply Kd.R_drew)); exact Kd.R_mono HO365.out (fun _ hk => hk.2)⟩, ⟨by repeat (first | (with_reducible first | exact HI351.out | apply IsS122.alloc | apply IsS122.drewN | apply IsS122.drew | apply IsS122.set_1 | apply IsS122.set_2) | exact HI351.out)⟩, ⟨by repeat (first | (with_reducible first | exact HB.out | apply below_alloc | apply pw_below_drewN | apply below_drew1 | refine below_set ?_ (IsS122.ge HI351.out)) | exact HB.out)⟩⟩
  ·rw [if_neg c12] at H
   have c12b0 : decide (0 < (t355.length : Int)) = false := decide_eq_false c12
   have c12b1 : decide (0 < t355.length) = false := decide_eq_false (by omega)
   clear c12
   (first | rw [c12b0] | (simp only [i64_w, i32_w]; rw [c12b0]) | skip)
   have H' := Aside0.mk H
   clear H
   obtain ⟨Ao20, co20, eo20⟩ := Kd.R_slice HO358.out
   subst eo20
   go_wp2
   go_meet
   case rel => exact ⟨_, (false), (t360), (t361), (by first | rfl | (simp; done) | (simp [*]; done) | (simp [bne]; done)), H', ⟨by first | omega | exact Nat.le_refl _⟩, ⟨by (with_reducible repeat (first | apply Kd.R_alloc | apply Kd.R_drewN | apply Kd.R_drew)); exact Kd.R_mono HO358.out (fun _ hk => hk.2)⟩, ⟨by (with_reducible repeat (first | apply Kd.R_alloc | apply Kd.R_drewN | apply Kd.R_drew)); exact Kd.R_mono HO365.out (fun _ hk => hk.2)⟩, ⟨by repeat (first | (with_reducible first | exact HI351.out | apply IsS122.alloc | apply IsS122.drewN | apply IsS122.drew | apply IsS122.set_1 | apply IsS122.set_2) | exact HI351.out)⟩, ⟨by repeat (first | (with_reducible first | exact HB.out | apply below_alloc | apply pw_below_drewN | apply below_drew1 | refine below_set ?_ (IsS122.ge HI351.out)) | exact HB.out)⟩⟩
 case rest =>
  clear HC6
  try clear c1
  try clear c2
  try clear p2
  try clear c9
  try clear c12
  try clear c12b0
  try clear c12b1
  try clear c13
  try clear c13b0
  try clear c13b1
  try clear c13b2
  obtain ⟨kq, x38_5, x352001_5, x352002_5, rfl, HA, HJ5, HO_5, HO_7, HI351, HB⟩ := hcut
  cases kq with
  | zero => exact absurd HA.out (by simp [spec_DrawIsBelow.j0])
  | succ kj5 =>
   have H := HA.out
   clear HA
   simp only [spec_DrawIsBelow.j0] at H
   have HC21 := Aside0.mk H
   clear H
   go_upto_if 38 with (fail)
   go_cut [] (fun wc => ∃ (kq : Nat) (x5_20 : List Int), Aside0 (spec_DrawIsBelow.j2 kq x5_20 t362 l0 x352001_5 x352002_5 = some (r1, r2)) ∧ Aside0 (kq ≤ kj5) ∧ Aside0 (Kd.R (Kd.int .i64) 3 wc w.heap.size (fun k_ => some k_ ≠ (v364 : Value).ownBlock) v357 x5_20) ∧ Aside0 (Kd.R (Kd.int .i64) 3 wc w.heap.size (fun k_ => some k_ ≠ (v357 : Value).ownBlock) v364 t362) ∧ Aside0 (IsS122 w wc gb351 l0 x352001_5 x352002_5) ∧ Aside0 (Below w.heap.size w wc))
   case first =>
    have H := HC21.out
    clear HC21
    by_cases c22 : x38_5 = true
    ·subst c22
     have H1 : (spec_DrawIsBelow.l0 kj5 t355 t362 (t355.length : Int) 0 l0 x352001_5 x352002_5) = some (r1, r2) := by rw [if_pos rfl] at H; exact H
     clear H
     have H := H1
     clear H1
     have H' := Aside0.mk H
     clear H
     obtain ⟨Ao23, co23, eo23⟩ := Kd.R_slice HO_5.out
     subst eo23
     go_wp2
     go_loopg [41] kj5 (fun kq v41 w' => ∃ (x5_2 : List Int) (x41_2 : Int), v41 = .int .i64 x41_2 ∧ Aside0 (spec_DrawIsBelow.l0 kq x5_2 t362 (t355.length : Int) x41_2 l0 x352001_5 x352002_5 = some (r1, r2)) ∧ Aside0 (kq ≤ kj5) ∧ Aside0 (Kd.R (Kd.int .i64) 3 w' w.heap.size (fun k_ => some k_ ≠ (v364 : Value).ownBlock) (.slice Ao23 t355.length co23) x5_2) ∧ Aside0 (Kd.R (Kd.int .i64) 3 w' w.heap.size (fun k_ => some k_ ≠ ((.slice Ao23 t355.length co23) : Value).ownBlock) v364 t362) ∧ Aside0 (IsS122 w w' gb351 l0 x352001_5 x352002_5) ∧ Aside0 (Below w.heap.size w w'))
     case atStart => exact ⟨(t355), (0), (by first | rfl | (simp; done) | (simp [*]; done) | (simp [bne]; done)), H', ⟨Nat.le_refl _⟩, ⟨by (with_reducible repeat (first | apply Kd.R_alloc | apply Kd.R_drewN | apply Kd.R_drew)); exact HO_5.out⟩, ⟨by (with_reducible repeat (first | apply Kd.R_alloc | apply Kd.R_drewN | apply Kd.R_drew)); exact HO_7.out⟩, ⟨by repeat (first | (with_reducible first | exact HI351.out | apply IsS122.alloc | apply IsS122.drewN | apply IsS122.drew | apply IsS122.set_1 | apply IsS122.set_2) | exact HI351.out)⟩, ⟨by repeat (first | (with_reducible first | exact HB.out | apply below_alloc | apply pw_below_drewN | apply below_drew1 | refine below_set ?_ (IsS122.ge HI351.out)) | exact HB.out)⟩⟩
     case round =>
      clear H'
      try clear c1
      try clear c2
      try clear p2
      try clear c9
      try clear c12
      try clear c12b0
      try clear c12b1
      try clear c13
      try clear c13b0
      try clear c13b1
      try clear c13b2
      try clear c22
      try clear p2
      obtain ⟨x5_2, x41_2, rfl, HA, HK2, HO_5, HO_7, HI351, HB⟩ := hrel
      have hl5_2 := (Kd.R_reads' HO_5.out).1
      rw [hl5_2] at HO_5
      (try simp only [hl5_2])
      (try simp only [hl5_2] at HO_7)
      cases gk with
      | zero => exact absurd HA.out (by simp [spec_DrawIsBelow.l0])
      | succ k2 =>
       have H := HA.out
       clear HA
       simp only [spec_DrawIsBelow.l0] at H
       by_cases c24 : x41_2 < (t355.length : Int)
       ·rw [if_pos c24] at H
        have c24b0 : decide (x41_2 < (t355.length : Int)) = true := decide_eq_true c24
        (try simp only [hl5_2] at c24b0)
        clear c24
        (first | rw [c24b0] | (simp only [i64_w, i32_w]; rw [c24b0]) | skip)
        by_cases c25 : 0 ≤ x41_2
        ·rw [if_pos c25] at H
         have c25b0 : decide (0 ≤ x41_2) = true := decide_eq_true c25
         clear c25
         by_cases c26 : x41_2 < (x5_2.length : Int)
         ·rw [if_pos c26] at H
          have c26b0 : decide (x41_2 < (x5_2.length : Int)) = true := decide_eq_true c26
          (try simp only [hl5_2] at c26b0)
          clear c26
          by_cases c27 : x41_2 < (t362.length : Int)
          ·rw [if_pos c27] at H
           have c27b0 : decide (x41_2 < (t362.length : Int)) = true := decide_eq_true c27
           (try simp only [hl5_2] at c27b0)
           clear c27
           replace H := Option.bind_eq_some_iff.mp H
           obtain ⟨t371, A280, H⟩ := H
           replace H : (spec_DrawIsBelow.l0 k2 (x5_2.set (x41_2 : Int).toNat t371) t362 (t355.length : Int) (wrap64 (x41_2 + 1)) l0 x352001_5 x352002_5) = some (r1, r2) := H
           have A28 := Aside0.mk A280
           clear A280
           obtain ⟨y372, hy372⟩ : ∃ y_ : List Int, y_ = (x5_2.set (x41_2 : Int).toNat t371) := ⟨_, rfl⟩
           replace H : (spec_DrawIsBelow.l0 k2 y372 t362 (t355.length : Int) (wrap64 (x41_2 + 1)) l0 x352001_5 x352002_5) = some (r1, r2) := by first | (rw [hy372]; with_reducible exact H) | (have H2_ := (Option.bind_some _ _).symm.trans H; rw [hy372]; with_reducible exact H2_) | (have H2_ := (Option.bind_some _ _).symm.trans H; with_reducible exact H2_) | with_reducible exact H | (rw [hy372]; exact H) | exact H
           have Ny372 := Aside0.mk hy372
           clear hy372
           have H' := Aside0.mk H
           clear H
           try go_wp2
           have n0_ := Aside0.mk (Kd.R_drew HO_5.out)
           have n1_ := Aside0.mk (Kd.R_drew HO_7.out)
           have n2_ := Aside0.mk (IsS122.drew HI351.out)
           have n3_ := Aside0.mk (below_drew1 HB.out)
           clear HO_5
           clear HO_7
           clear HI351
           clear HB
           have HO_5 := n0_
           have HO_7 := n1_
           have HI351 := n2_
           have HB := n3_
           clear n0_ n1_ n2_ n3_
           have p369 : 0 ≤ (x41_2 : Int) := of_decide_eq_true (by first | (with_reducible assumption) | assumption)
           have q369 : x41_2 < (x5_2.length : Int) := of_decide_eq_true (by first | (with_reducible assumption) | assumption)
           obtain ⟨ad369, e369, hx369_0⟩ := Kd.at_int (Kd.R_reads' HO_5.out).2.2 x41_2 p369 q369
           cases e369
           replace p369 := eq_true p369
           replace q369 := eq_true q369
           obtain ⟨Ao31, co31, eo31⟩ := Kd.R_slice HO_7.out
           (first | subst eo31 | (injection eo31 with f1_ f2_ f3_; have f4_ := f1_.symm; have f5_ := f3_.symm; clear f1_ f2_ f3_; subst f4_; subst f5_))
           have p370 : 0 ≤ (x41_2 : Int) := of_decide_eq_true (by first | (with_reducible assumption) | assumption)
           have q370 : x41_2 < (t362.length : Int) := of_decide_eq_true (by first | (with_reducible assumption) | assumption)
           obtain ⟨ad370, e370, hx370_0⟩ := Kd.at_int (Kd.R_reads' HO_7.out).2.2 x41_2 p370 q370
           cases e370
           replace p370 := eq_true p370
           replace q370 := eq_true q370
           refine start_ (n := 13) (S := fun w' => w'.cell? (ad369.add (x41_2).toNat) = some (.int .i64 (rd x5_2 x41_2)) ∧ w'.cell? (ad370.add (x41_2).toNat) = some (.int .i64 (rd t362 x41_2))) (ds := [12]) #[false, false, false, false, false, false, false, false, false, false, false, false, false] (by kernel_rfl) rfl rfl ⟨hx369_0, hx370_0⟩ (fun hHeld => ?_); refine with_tabW spec_DrawIsBelow.tab8 spec_DrawIsBelow.bits8 (fun HT_ HW_ => ?_)
           generalize wr.drew = w30 at HO_5 HO_7 HI351 HB hx369_0 hx370_0 hHeld ⊢
           refine pure_ (i := 0) (N := some 44) (v := ?_) (a' := ?_) #[true, false, false, false, false, false, false, false, false, false, false, false, false] rfl rfl (any_of HT_.out (by kernel_rfl)) (fun _ _ _ h => h) (Or.inl ⟨by rfl, ?_⟩) ?_ ?_
           rotate_left
           ·intro w'
            go_simp
            with_reducible rfl
           rotate_left
           ·simp only [Act.put, List.setIfInBounds_toArray, List.set_cons_zero, List.set_cons_succ, i64_w, i32_w]
            rfl
           refine pure_ (i := 1) (N := some 45) (v := ?_) (a' := ?_) #[true, true, false, false, false, false, false, false, false, false, false, false, false] rfl rfl (any_of HT_.out (by kernel_rfl)) (fun _ _ _ h => h) (Or.inl ⟨by rfl, ?_⟩) ?_ ?_
           rotate_left
           ·intro w'
            go_simp
            with_reducible rfl
           rotate_left
           ·simp only [Act.put, List.setIfInBounds_toArray, List.set_cons_zero, List.set_cons_succ, i64_w, i32_w]
            rfl
           refine pure_ (i := 2) (N := some 46) (v := ?_) (a' := ?_) #[true, true, true, false, false, false, false, false, false, false, false, false, false] rfl rfl (any_of HT_.out (by kernel_rfl)) (fun _ _ _ h => h) (Or.inl ⟨by rfl, ?_⟩) ?_ ?_
           rotate_left
           ·intro w'
            go_simp
            with_reducible rfl
           rotate_left
           ·simp only [Act.put, List.setIfInBounds_toArray, List.set_cons_zero, List.set_cons_succ, i64_w, i32_w]
            rfl
           refine pure_ (i := 3) (N := some 47) (v := ?_) (a' := ?_) #[true, true, true, true, false, false, false, false, false, false, false, false, false] rfl rfl (any_of HT_.out (by kernel_rfl)) (fun _ _ _ h => h) (Or.inl ⟨by rfl, ?_⟩) ?_ ?_
           rotate_left
           ·intro w'
            go_simp
            with_reducible rfl
           rotate_left
           ·simp only [Act.put, List.setIfInBounds_toArray, List.set_cons_zero, List.set_cons_succ, i64_w, i32_w]
            rfl
           refine pure_ (i := 4) (N := some 48) (v := ?_) (a' := ?_) #[true, true, true, true, true, false, false, false, false, false, false, false, false] rfl rfl (any_of HT_.out (by kernel_rfl)) (fun _ _ _ h => h) (Or.inl ⟨by rfl, ?_⟩) ?_ ?_
           rotate_left
           ·intro w'
            go_simp
            with_reducible rfl
           rotate_left
           ·simp only [Act.put, List.setIfInBounds_toArray, List.set_cons_zero, List.set_cons_succ, i64_w, i32_w]
            rfl
           refine pure_ (i := 6) (N := some 50) (v := ?_) (a' := ?_) #[true, true, true, true, true, false, true, false, false, false, false, false, false] rfl rfl (any_of HT_.out (by kernel_rfl)) (fun _ _ _ h => h) (Or.inl ⟨by rfl, ?_⟩) ?_ ?_
           rotate_left
           ·intro w'
            go_simp
            with_reducible rfl
           rotate_left
           ·simp only [Act.put, List.setIfInBounds_toArray, List.set_cons_zero, List.set_cons_succ, i64_w, i32_w]
            rfl
           refine pure_ (i := 7) (N := some 51) (v := ?_) (a' := ?_) #[true, true, true, true, true, false, true, true, false, false, false, false, false] rfl rfl (any_of HT_.out (by kernel_rfl)) (fun _ _ _ h => h) (Or.inl ⟨by rfl, ?_⟩) ?_ ?_
           rotate_left
           ·intro w'
            go_simp
            with_reducible rfl
           rotate_left
           ·simp only [Act.put, List.setIfInBounds_toArray, List.set_cons_zero, List.set_cons_succ, i64_w, i32_w]
            rfl
           refine pure_ (i := 8) (N := some 52) (v := ?_) (a' := ?_) #[true, true, true, true, true, false, true, true, true, false, false, false, false] rfl rfl (any_of HT_.out (by kernel_rfl)) (fun _ _ _ h => h) (Or.inl ⟨by rfl, ?_⟩) ?_ ?_
           rotate_left
           ·intro w'
            go_simp
            with_reducible rfl
           rotate_left
           ·simp only [Act.put, List.setIfInBounds_toArray, List.set_cons_zero, List.set_cons_succ, i64_w, i32_w]
            rfl
           refine take_ (i := 5) (N := some 49) (v := ?_) (a' := ?_) #[true, true, true, true, true, true, true, true, true, false, false, false, false] rfl rfl (take_ofW HT_.out HW_.out (by kernel_rfl)) (fun _ _ _ h => h) (Or.inl ⟨by rfl, ?_⟩) hHeld ?_ ?_
           rotate_left
           ·rintro w' ⟨s0, s1⟩
            go_simp
            with_reducible rfl
           rotate_left
           ·simp only [Act.put, List.setIfInBounds_toArray, List.set_cons_zero, List.set_cons_succ, i64_w, i32_w]
            rfl
           refine take_ (i := 9) (N := some 53) (v := ?_) (a' := ?_) #[true, true, true, true, true, true, true, true, true, true, false, false, false] rfl rfl (take_ofW HT_.out HW_.out (by kernel_rfl)) (fun _ _ _ h => h) (Or.inl ⟨by rfl, ?_⟩) hHeld ?_ ?_
           rotate_left
           ·rintro w' ⟨s0, s1⟩
            go_simp
            with_reducible rfl
           rotate_left
           ·simp only [Act.put, List.setIfInBounds_toArray, List.set_cons_zero, List.set_cons_succ, i64_w, i32_w]
            rfl
           refine one_ (i := 10) (N := some 54) #[true, true, true, true, true, true, true, true, true, true, true, false, false] rfl rfl (one_of HT_.out (by kernel_rfl)) (by decide) (fun K hK => ?_)
           refine goes_ Try.func109 (by kernel_rfl) rfl #[.int .i64 (rd x5_2 x41_2), .int .i64 (rd t362 x41_2)] (by rfl) rfl rfl (by (try simp only [List.map_toArray, List.map_cons, List.map_nil]); first | done | rfl | (simp only [List.length_drop, List.length_take]; rfl)) ?_
           with_reducible refine (spec_l1Least.calls (rd x5_2 x41_2) (rd t362 x41_2) t371 _ A28.out).mono ?_
           rintro e w' ⟨rfl, ⟨nd, rfl⟩⟩
           refine ⟨_, rfl, ?_⟩
           have p29 : 0 ≤ (x41_2 : Int) := of_decide_eq_true (by first | (with_reducible assumption) | assumption)
           have q29 : (x41_2 : Int) < ((x5_2.length : Int) : Int) := of_decide_eq_true (by first | (with_reducible assumption) | assumption)
           obtain ⟨go29, co29, eo29, gb29, gl29, cl29, HG29⟩ := Kd.R_form HO_5.out (by omega)
           (first | cases eo29 | (injection eo29 with ea_ en_ ec_; (first | subst ea_ | (injection ea_ with ea_; subst ea_)); subst ec_; clear en_))
           have GB29 := Aside0.mk gb29
           have GG29 := Aside0.mk HG29
           clear gb29 gl29 HG29
           (first | simp only [add_plain] at hx369_0 | skip)
           obtain ⟨hx29_0, hf29_0⟩ := Kd.R_celln 0 HO_5.out (x41_2 : Int) p29 q29
           replace p29 := eq_true p29
           replace q29 := eq_true q29
           have HN351_go29 := Aside0.mk (show gb351 ≠ go29 from by have h_ := IsS122.own_ne HI351.out HO_5.out (by decide); intro e_; exact h_ (by rw [e_]; rfl))
           have HP32 := Kd.R_putn HO_5.out (x41_2 : Int) t371
           rw [← Ny372.out] at HP32
           have HQ32 := Aside0.mk HP32
           clear HP32
           refine hK.out _ _ ⟨hHeld.1, hHeld.2⟩ (fun hHeld => ?_)
           clear hK K
           refine norm_ (a' := ?_) ?_ ?_
           rotate_left
           ·show Act.put _ (some 54) _ = _
            simp only [Act.put, List.setIfInBounds_toArray, List.set_cons_zero, List.set_cons_succ, i64_w, i32_w]
            rfl
           refine pure_ (i := 11) (N := some 55) (v := ?_) (a' := ?_) #[true, true, true, true, true, true, true, true, true, true, true, true, false] rfl rfl (any_of HT_.out (by kernel_rfl)) (fun _ _ _ h => h) (Or.inl ⟨by rfl, ?_⟩) ?_ ?_
           rotate_left
           ·intro w'
            go_simp
            with_reducible rfl
           rotate_left
           ·simp only [Act.put, List.setIfInBounds_toArray, List.set_cons_zero, List.set_cons_succ, i64_w, i32_w]
            rfl
           refine last_ (i := 12) (N := none) #[true, true, true, true, true, true, true, true, true, true, true, true, true] rfl rfl (one_of HT_.out (by kernel_rfl)) (by decide) (fun K hK => ?_)
           refine skip_ (w1 := ?_) (by rfl) rfl ?_ ?_
           rotate_left
           ·go_simp
            rfl
           refine hK.out _ _ ?_
           clear hK K
           refine done_ (done_of HT_.out (by kernel_rfl)) ?_
           try go_wp2
           (try simp only [← hl5_2])
           go_roundg k2
           case measure => have := HJ5.out; have := HK2.out; omega
           case rel => exact ⟨(y372), (wrap64 (x41_2 + 1)), (by first | rfl | (simp; done) | (simp [*]; done) | (simp [bne]; done)), H', ⟨by have := HJ5.out; have := HK2.out; omega⟩, ⟨by (try simp only [hl5_2]); (with_reducible repeat (first | apply Kd.R_alloc | apply Kd.R_drewN | apply Kd.R_drew)); exact HQ32.out⟩, ⟨by (try simp only [hl5_2]); (with_reducible repeat (first | apply Kd.R_alloc | apply Kd.R_drewN | apply Kd.R_drew)); exact Kd.R_mono (Kd.R_far (p := ⟨go29, (x41_2 : Int).toNat, none⟩) (Kd.R_mono HO_7.out (fun k_ hk => (⟨hk, fun e_ => hk (by rw [e_]; rfl)⟩ : _ ∧ k_ ≠ go29))) (fun _ hk => hk.2) (.int .i64 t371)) (fun _ hk => hk.1)⟩, ⟨by repeat (first | (with_reducible first | exact HI351.out | apply IsS122.alloc | apply IsS122.drewN | apply IsS122.drew | apply IsS122.set_1 | apply IsS122.set_2 | refine IsS122.far ?_ HN351_go29.out _) | exact HI351.out)⟩, ⟨by repeat (first | (with_reducible first | exact HB.out | apply below_alloc | apply pw_below_drewN | apply below_drew1 | refine below_set ?_ GB29.out | refine below_set ?_ (IsS122.ge HI351.out)) | exact HB.out)⟩⟩
          ·rw [if_neg c27] at H
           exact absurd H (by simp)
         ·rw [if_neg c26] at H
          exact absurd H (by simp)
        ·rw [if_neg c25] at H
         exact absurd H (by simp)
       ·rw [if_neg c24] at H
        have c24b0 : decide (x41_2 < (t355.length : Int)) = false := decide_eq_false c24
        (try simp only [hl5_2] at c24b0)
        clear c24
        (first | rw [c24b0] | (simp only [i64_w, i32_w]; rw [c24b0]) | skip)
        have H' := Aside0.mk H
        clear H
        go_wp2
        (try simp only [← hl5_2])
        go_meet
        case rel => exact ⟨_, (x5_2), H', ⟨by have := HJ5.out; have := HK2.out; first | omega | exact Nat.le_refl _⟩, ⟨by (try simp only [hl5_2]); (with_reducible repeat (first | apply Kd.R_alloc | apply Kd.R_drewN | apply Kd.R_drew)); exact HO_5.out⟩, ⟨by (try simp only [hl5_2]); (with_reducible repeat (first | apply Kd.R_alloc | apply Kd.R_drewN | apply Kd.R_drew)); exact HO_7.out⟩, ⟨by repeat (first | (with_reducible first | exact HI351.out | apply IsS122.alloc | apply IsS122.drewN | apply IsS122.drew | apply IsS122.set_1 | apply IsS122.set_2) | exact HI351.out)⟩, ⟨by repeat (first | (with_reducible first | exact HB.out | apply below_alloc | apply pw_below_drewN | apply below_drew1 | refine below_set ?_ (IsS122.ge HI351.out)) | exact HB.out)⟩⟩
    ·replace c22 := Bool.eq_false_iff.mpr c22
     subst c22
     have H1 : (spec_DrawIsBelow.j2 kj5 t355 t362 l0 x352001_5 x352002_5) = some (r1, r2) := by rw [if_neg (show ¬ (false = true) by decide)] at H; exact H
     clear H
     have H := H1
     clear H1
     have H' := Aside0.mk H
     clear H
     go_wp2
     go_meet
     case rel => exact ⟨_, (t355), H', ⟨by have := HJ5.out; first | omega | exact Nat.le_refl _⟩, ⟨by (with_reducible repeat (first | apply Kd.R_alloc | apply Kd.R_drewN | apply Kd.R_drew)); exact HO_5.out⟩, ⟨by (with_reducible repeat (first | apply Kd.R_alloc | apply Kd.R_drewN | apply Kd.R_drew)); exact HO_7.out⟩, ⟨by repeat (first | (with_reducible first | exact HI351.out | apply IsS122.alloc | apply IsS122.drewN | apply IsS122.drew | apply IsS122.set_1 | apply IsS122.set_2) | exact HI351.out)⟩, ⟨by repeat (first | (with_reducible first | exact HB.out | apply below_alloc | apply pw_below_drewN | apply below_drew1 | refine below_set ?_ (IsS122.ge HI351.out)) | exact HB.out)⟩⟩
   case rest =>
    clear HC21
    try clear c1
    try clear c2
    try clear p2
    try clear q2
    try clear hx2
    try clear hf2
    try clear p3
    try clear q3
    try clear hx3
    try clear p6
    try clear c9
    try clear c10
    try clear c12
    try clear c12b0
    try clear c12b1
    try clear c13
    try clear c13b0
    try clear c13b1
    try clear c13b2
    try clear c22
    try clear c24
    try clear c24b0
    try clear c25
    try clear c25b0
    try clear c26
    try clear c26b0
    try clear c27
    try clear c27b0
    try clear c29
    try clear p29
    try clear q29
    try clear hx29
    try clear hf29
    try clear hx29_0
    try clear hx369_0
    try clear hx370_0
    try clear p2
    try clear p29
    try clear p369
    try clear p370
    try clear q29
    try clear q369
    try clear q370
    obtain ⟨kq, x5_20, HA, HJ20, HO_5, HO_7, HI351, HB⟩ := hcut
    cases kq with
    | zero => exact absurd HA.out (by simp [spec_DrawIsBelow.j2])
    | succ kj20 =>
     have H := HA.out
     clear HA
     simp only [spec_DrawIsBelow.j2] at H
     by_cases c33 : (x5_20.length : Int) > 0
     ·rw [if_pos c33] at H
      have c33b0 : decide (0 < (x5_20.length : Int)) = true := decide_eq_true c33
      have c33b1 : decide (0 < x5_20.length) = true := decide_eq_true (by omega)
      clear c33
      replace H := Option.bind_eq_some_iff.mp H
      obtain ⟨⟨t373, t374, t375⟩, A340, H⟩ := H
      replace H : (if t373 = true then ((spec_l1Cur_among.f l0 t374 t375 (([(-1), 15, 16] : List Int))).bind fun bt379 => (if 0 < (x5_20.length : Int) then (some ((x5_20.set (0 : Int).toNat bt379.1), t362)) else (none))) else (some (x5_20, t362))) = some (r1, r2) := H
      have A34 := Aside0.mk A340
      clear A340
      by_cases c35 : t373 = true
      ·subst c35
       have H1 : ((spec_l1Cur_among.f l0 t374 t375 (([(-1), 15, 16] : List Int))).bind fun bt379 => (if 0 < (x5_20.length : Int) then (some ((x5_20.set (0 : Int).toNat bt379.1), t362)) else (none))) = some (r1, r2) := by rw [if_pos rfl] at H; exact H
       clear H
       have H := H1
       clear H1
       obtain ⟨y376, hy376⟩ : ∃ y_ : List Int, y_ = (([(-1), 15, 16] : List Int)) := ⟨_, rfl⟩
       replace H : ((spec_l1Cur_among.f l0 t374 t375 y376).bind fun bt379 => (if 0 < (x5_20.length : Int) then (some ((x5_20.set (0 : Int).toNat bt379.1), t362)) else (none))) = some (r1, r2) := by first | (rw [hy376]; with_reducible exact H) | (have H2_ := (Option.bind_some _ _).symm.trans H; rw [hy376]; with_reducible exact H2_) | (have H2_ := (Option.bind_some _ _).symm.trans H; with_reducible exact H2_) | with_reducible exact H | (rw [hy376]; exact H) | exact H
       have Ny376 := Aside0.mk hy376
       clear hy376
       replace H := Option.bind_eq_some_iff.mp H
       obtain ⟨⟨t379, t380, t381⟩, A360, H⟩ := H
       replace H : (if 0 < (x5_20.length : Int) then (some ((x5_20.set (0 : Int).toNat t379), t362)) else (none)) = some (r1, r2) := H
       have A36 := Aside0.mk A360
       clear A360
       by_cases c37 : 0 < (x5_20.length : Int)
       ·rw [if_pos c37] at H
        have c37b0 : decide (0 < (x5_20.length : Int)) = true := decide_eq_true c37
        have c37b1 : decide (0 < x5_20.length) = true := decide_eq_true (by omega)
        clear c37
        obtain ⟨y382, hy382⟩ : ∃ y_ : List Int, y_ = (x5_20.set (0 : Int).toNat t379) := ⟨_, rfl⟩
        replace H : (some (y382, t362)) = some (r1, r2) := by first | (rw [hy382]; with_reducible exact H) | (have H2_ := (Option.bind_some _ _).symm.trans H; rw [hy382]; with_reducible exact H2_) | (have H2_ := (Option.bind_some _ _).symm.trans H; with_reducible exact H2_) | with_reducible exact H | (rw [hy382]; exact H) | exact H
        have Ny382 := Aside0.mk hy382
        clear hy382
        simp only [Option.some.injEq, Prod.mk.injEq] at H
        obtain ⟨rfl, rfl⟩ := H
        obtain ⟨Ao39, co39, eo39⟩ := Kd.R_slice HO_5.out
        subst eo39
        go_wp2_with (first | (go_at_call 108; (with_reducible refine (spec_l1Cur_one.calls gb351 l0 x352001_5 x352002_5 12 true t374 t375 w _ ?side1 ?side2 A34.out).mono ?_); (case side1 => repeat (first | (with_reducible first | exact HI351.out | apply IsS122.alloc | apply IsS122.drewN | apply IsS122.drew | apply IsS122.set_1 | apply IsS122.set_2) | exact HI351.out)); (case side2 => repeat (first | (with_reducible first | exact HB.out | apply below_alloc | apply pw_below_drewN | apply below_drew1 | refine below_set ?_ (IsS122.ge HI351.out)) | exact HB.out)); rintro e w40 ⟨rfl, hi, hb, hk⟩; have n0_ := Aside0.mk (Kd.R_mono (Kd.R_keep (IsS122.apart (show IsS122 w _ gb351 l0 x352001_5 x352002_5 from by repeat (first | (with_reducible first | exact HI351.out | apply IsS122.alloc | apply IsS122.drewN | apply IsS122.drew | apply IsS122.set_1 | apply IsS122.set_2) | exact HI351.out)) (by (with_reducible repeat (first | apply Kd.R_alloc | apply Kd.R_drewN | apply Kd.R_drew)); exact HO_5.out) (by decide)) hk (fun _ h => h.2)) (fun _ h => h.1)); have n1_ := Aside0.mk (Kd.R_mono (Kd.R_keep (IsS122.apart (show IsS122 w _ gb351 l0 x352001_5 x352002_5 from by repeat (first | (with_reducible first | exact HI351.out | apply IsS122.alloc | apply IsS122.drewN | apply IsS122.drew | apply IsS122.set_1 | apply IsS122.set_2) | exact HI351.out)) (by (with_reducible repeat (first | apply Kd.R_alloc | apply Kd.R_drewN | apply Kd.R_drew)); exact HO_7.out) (by decide)) hk (fun _ h => h.2)) (fun _ h => h.1)); have n2_ := Aside0.mk (hb); have n3_ := Aside0.mk (hi); clear HO_5; clear HO_7; clear HB; clear HI351; have HO_5 := n0_; have HO_7 := n1_; have HB := n2_; have HI351 := n3_; clear n0_ n1_ n2_ n3_; (try clear hb); (try clear hb2); (try clear hk); (try clear hi)) | ((with_reducible refine gate_dst (N := 66) rfl ?_); (try (refine gate_guard (by rfl) ?_; dsimp only)); refine Kd.R_lit (Kd.int .i64) _ 3 ?hg (N := 66) ?hd (xs := ([(-1), 15, 16] : List Int)) (inner := [.int .i64 (-1), .int .i64 15, .int .i64 16]) (ok := fun _ => True) (okp := fun _ => True) ?hr ?hp (fun _ hk => hk) trivial (Below.refl _ _) (Nat.le_refl _) (by simp) ?_; (case hd => rfl); (case hg => rfl); (case hr => first | (go_simp; done) | (go_simp; rfl)); (case hp => exact (Reps.one (show Kd.M (Kd.int .i64) _ _ _ (-1) [.int .i64 (-1)] from rfl) (Reps.one (show Kd.M (Kd.int .i64) _ _ _ 15 [.int .i64 15] from rfl) (Reps.one (show Kd.M (Kd.int .i64) _ _ _ 16 [.int .i64 16] from rfl) (Reps.none _ _))))); intro v377 w41 ho42 hb hg_ hnew_; clear hg_ hnew_; (first | rw [← Ny376.out] at ho42 | (simp only [Int.reduceToNat] at ho42; rw [← Ny376.out] at ho42)); have n0_ := Aside0.mk (Kd.R_elder' (by (with_reducible repeat (first | apply Kd.R_alloc | apply Kd.R_drewN | apply Kd.R_drew)); exact HO_5.out) (Kd.R_base ho42) hb); have n1_ := Aside0.mk (Kd.R_elder' (by (with_reducible repeat (first | apply Kd.R_alloc | apply Kd.R_drewN | apply Kd.R_drew)); exact HO_7.out) (Kd.R_base ho42) hb); have n2_ := Aside0.mk (Kd.R_lower (Kd.R_new' (Kd.R_new' ho42 (Kd.R_lt (by (with_reducible repeat (first | apply Kd.R_alloc | apply Kd.R_drewN | apply Kd.R_drew)); exact HO_5.out))) (Kd.R_lt (by (with_reducible repeat (first | apply Kd.R_alloc | apply Kd.R_drewN | apply Kd.R_drew)); exact HO_7.out))) (below_size (by repeat (first | (with_reducible first | exact HB.out | apply below_alloc | apply pw_below_drewN | apply below_drew1 | refine below_set ?_ (IsS122.ge HI351.out)) | exact HB.out)))); have n3_ := Aside0.mk (IsS122.below (by repeat (first | (with_reducible first | exact HI351.out | apply IsS122.alloc | apply IsS122.drewN | apply IsS122.drew | apply IsS122.set_1 | apply IsS122.set_2) | exact HI351.out)) hb); have n4_ := Aside0.mk (below_step (by repeat (first | (with_reducible first | exact HB.out | apply below_alloc | apply pw_below_drewN | apply below_drew1 | refine below_set ?_ (IsS122.ge HI351.out)) | exact HB.out)) hb); clear HO_5; clear HO_7; clear HI351; clear HB; have HO_5 := n0_; have HO_7 := n1_; have HO378 := n2_; have HI351 := n3_; have HB := n4_; clear n0_ n1_ n2_ n3_ n4_; clear hb ho42; obtain ⟨Ao43, co43, eo43⟩ := Kd.R_slice HO378.out; subst eo43) | ((with_reducible refine gate_callee (f := 110) rfl ?_); refine goesL_ (some 67) rfl rfl Try.func110 (by kernel_rfl) rfl #[.pointer (some ⟨gb351, 0, none⟩), .slice Ao43 y376.length co43] rfl (by (try simp only [List.map_toArray, List.map_cons, List.map_nil]); first | done | rfl | (simp only [List.length_drop, List.length_take]; rfl)) ?_; (with_reducible refine (spec_l1Cur_among.calls gb351 l0 t374 t375 _ _ y376 t379 t380 t381 w _ ?side1 ?side2 ?side3 ?side4 ?side5 A36.out).mono ?_); (case side1 => repeat (first | (with_reducible first | exact HI351.out | apply IsS122.alloc | apply IsS122.drewN | apply IsS122.drew | apply IsS122.set_1 | apply IsS122.set_2) | exact HI351.out)); (case side2 => repeat (first | (with_reducible first | exact HB.out | apply below_alloc | apply pw_below_drewN | apply below_drew1 | refine below_set ?_ (IsS122.ge HI351.out)) | exact HB.out)); (case side3 => repeat (first | exact (Kd.R_reads' HO378.out).2.2 | (with_reducible refine Kd.C_alloc ?_ _) | (with_reducible refine Kd.C_drewN ?_ _) | (with_reducible refine Kd.C_drew ?_))); (case side4 => exact (Kd.R_reads' HO378.out).2.1); (case side5 => exact far_slice (IsS122.own_ne HI351.out HO378.out (by decide))); rintro e w44 ⟨rfl, hi, hb, hk⟩; refine ⟨_, rfl, ?_⟩; have n0_ := Aside0.mk (Kd.R_mono (Kd.R_keep (IsS122.apart (show IsS122 w _ gb351 l0 t374 t375 from by repeat (first | (with_reducible first | exact HI351.out | apply IsS122.alloc | apply IsS122.drewN | apply IsS122.drew | apply IsS122.set_1 | apply IsS122.set_2) | exact HI351.out)) (by (with_reducible repeat (first | apply Kd.R_alloc | apply Kd.R_drewN | apply Kd.R_drew)); exact HO_5.out) (by decide)) hk (fun _ h => h.2)) (fun _ h => h.1)); have n1_ := Aside0.mk (Kd.R_mono (Kd.R_keep (IsS122.apart (show IsS122 w _ gb351 l0 t374 t375 from by repeat (first | (with_reducible first | exact HI351.out | apply IsS122.alloc | apply IsS122.drewN | apply IsS122.drew | apply IsS122.set_1 | apply IsS122.set_2) | exact HI351.out)) (by (with_reducible repeat (first | apply Kd.R_alloc | apply Kd.R_drewN | apply Kd.R_drew)); exact HO_7.out) (by decide)) hk (fun _ h => h.2)) (fun _ h => h.1)); have n2_ := Aside0.mk (Kd.R_mono (Kd.R_keep (IsS122.apart (show IsS122 w _ gb351 l0 t374 t375 from by repeat (first | (with_reducible first | exact HI351.out | apply IsS122.alloc | apply IsS122.drewN | apply IsS122.drew | apply IsS122.set_1 | apply IsS122.set_2) | exact HI351.out)) (by (with_reducible repeat (first | apply Kd.R_alloc | apply Kd.R_drewN | apply Kd.R_drew)); exact HO378.out) (by decide)) hk (fun _ h => h.2)) (fun _ h => h.1)); have n3_ := Aside0.mk (hb); have n4_ := Aside0.mk (hi); clear HO_5; clear HO_7; clear HO378; clear HB; clear HI351; have HO_5 := n0_; have HO_7 := n1_; have HO378 := n2_; have HB := n3_; have HI351 := n4_; clear n0_ n1_ n2_ n3_ n4_; (try clear hb); (try clear hb2); (try clear hk); (try clear hi); have p38 : 0 ≤ (0 : Int) := (by omega); have q38 : (0 : Int) < ((x5_20.length : Int) : Int) := of_decide_eq_true (by first | (with_reducible assumption) | assumption); have qi38 : (0 < x5_20.length) = True := eq_true (by omega); obtain ⟨go38, co38, eo38, gb38, gl38, cl38, HG38⟩ := Kd.R_form HO_5.out (by omega); (first | cases eo38 | (injection eo38 with ea_ en_ ec_; (first | subst ea_ | (injection ea_ with ea_; subst ea_)); subst ec_; clear en_)); have GB38 := Aside0.mk gb38; have GG38 := Aside0.mk HG38; clear gb38 gl38 HG38; obtain ⟨hx38_0, hf38_0⟩ := Kd.R_celln 0 HO_5.out (0 : Int) p38 q38; (try rw [show ((0 : Int)).toNat = 0 from rfl] at hx38_0); (try simp only [Nat.reduceMul, Nat.zero_mul, Nat.zero_add, Nat.reduceAdd] at hx38_0); (try rw [show ((0 : Int)).toNat = 0 from rfl] at hf38_0); (try simp only [Nat.reduceMul, Nat.zero_mul, Nat.zero_add, Nat.reduceAdd] at hf38_0); replace p38 := eq_true p38; replace q38 := eq_true q38; obtain ⟨hy45_, hz45_⟩ := Kd.R_celln 0 HO_5.out (0 : Int) (by omega) (of_decide_eq_true (by first | (with_reducible assumption) | assumption)); (try simp only [Int.reduceToNat, Int.toNat_zero, Int.toNat_ofNat, Nat.reduceMul, Nat.zero_mul, Nat.zero_add] at hy45_ hz45_); (try rw [show ((0 : Int)).toNat = 0 from rfl] at hy45_); (try rw [show ((0 : Int)).toNat = 0 from rfl] at hz45_); have HP45 := Kd.R_putg HO_5.out (0 : Int) t379) | ((with_reducible refine gate_store (t := 3) (p := 68) rfl ?_); refine store_event (t := 3) (p := 68) (v := ?vo_w46) (w1 := (w44.setCell ⟨go38, (0 : Int).toNat, none⟩ (.int .i64 t379))) ?hg ?ho ?hn ?hr ?_; (case ho => rfl); (case hg => rfl); (case hn => rfl); (case hr => first | (go_simp; done) | (go_simp; rfl)); intro w46 hw; have hg : w44.grownBy w46 (some go38) := (by rw [hw]; exact HP45.2); have hp_ : Kd.R (Kd.int .i64) 3 w46 w.heap.size (fun k_ => some k_ ≠ (v364 : Value).ownBlock ∧ some k_ ≠ (.slice Ao43 y376.length co43 : Value).ownBlock) (.slice (some ⟨go38, 0, none⟩) x5_20.length co39) y382 := (by rw [hw, Ny382.out]; exact HP45.1); clear HP45; have n0_ := Aside0.mk (hp_); have n1_ := Aside0.mk (Kd.R_after (v := (.slice (some ⟨go38, 0, none⟩) x5_20.length co39)) (v1 := (.slice (some ⟨go38, 0, none⟩) x5_20.length co39)) (ok := (fun k_ => some k_ ≠ (.slice Ao43 y376.length co43 : Value).ownBlock)) (by (with_reducible repeat (first | apply Kd.R_alloc | apply Kd.R_drewN | apply Kd.R_drew)); exact Kd.R_mono HO_7.out (fun _ hk => ⟨hk.2, hk.1⟩)) hg (.inl rfl)); have n2_ := Aside0.mk (IsS122.grown (by repeat (first | (with_reducible first | exact HI351.out | apply IsS122.alloc | apply IsS122.drewN | apply IsS122.drew | apply IsS122.set_1 | apply IsS122.set_2) | exact HI351.out)) hg (IsS122.own_ne HI351.out HO_5.out (by decide))); have n3_ := Aside0.mk (Kd.R_after (v := (.slice (some ⟨go38, 0, none⟩) x5_20.length co39)) (v1 := (.slice (some ⟨go38, 0, none⟩) x5_20.length co39)) (ok := (fun k_ => some k_ ≠ (v364 : Value).ownBlock)) (by (with_reducible repeat (first | apply Kd.R_alloc | apply Kd.R_drewN | apply Kd.R_drew)); exact Kd.R_mono HO378.out (fun _ hk => ⟨hk.2, hk.1.2⟩)) hg (.inl rfl)); have n4_ := Aside0.mk ((by rw [hw]; exact below_set (HB.out) GB38.out : Below w.heap.size w w46)); clear HO_5; clear HO_7; clear HI351; clear HO378; clear HB; have HO_5 := n0_; have HO_7 := n1_; have HI351 := n2_; have HO378 := n3_; have HB := n4_; clear n0_ n1_ n2_ n3_ n4_; clear hg hw hp_))
        go_ret2
        exact ⟨_, _, by first | rfl | (simp [errW_none, errW_some] <;> rfl) | (simp [*, errW_none, errW_some] <;> rfl), by (with_reducible repeat (first | apply Kd.R_alloc | apply Kd.R_drewN | apply Kd.R_drew)); exact Kd.R_mono HO_5.out (fun _ hk => hk.1), by (with_reducible repeat (first | apply Kd.R_alloc | apply Kd.R_drewN | apply Kd.R_drew)); exact Kd.R_mono HO_7.out (fun _ hk => hk.2), by repeat (first | (with_reducible first | exact HB.out | apply below_alloc | apply pw_below_drewN | apply below_drew1 | refine below_set ?_ (IsS122.ge HI351.out)) | exact HB.out)⟩
       ·rw [if_neg c37] at H
        exact absurd H (by simp)
      ·replace c35 := Bool.eq_false_iff.mpr c35
       subst c35
       have H1 : (some (x5_20, t362)) = some (r1, r2) := by rw [if_neg (show ¬ (false = true) by decide)] at H; exact H
       clear H
       have H := H1
       clear H1
       simp only [Option.some.injEq, Prod.mk.injEq] at H
       obtain ⟨rfl, rfl⟩ := H
       obtain ⟨Ao47, co47, eo47⟩ := Kd.R_slice HO_5.out
       subst eo47
       go_wp2_with (first | (go_at_call 108; (with_reducible refine (spec_l1Cur_one.calls gb351 l0 x352001_5 x352002_5 12 false t374 t375 w _ ?side1 ?side2 A34.out).mono ?_); (case side1 => repeat (first | (with_reducible first | exact HI351.out | apply IsS122.alloc | apply IsS122.drewN | apply IsS122.drew | apply IsS122.set_1 | apply IsS122.set_2) | exact HI351.out)); (case side2 => repeat (first | (with_reducible first | exact HB.out | apply below_alloc | apply pw_below_drewN | apply below_drew1 | refine below_set ?_ (IsS122.ge HI351.out)) | exact HB.out)); rintro e w48 ⟨rfl, hi, hb, hk⟩; have n0_ := Aside0.mk (Kd.R_mono (Kd.R_keep (IsS122.apart (show IsS122 w _ gb351 l0 x352001_5 x352002_5 from by repeat (first | (with_reducible first | exact HI351.out | apply IsS122.alloc | apply IsS122.drewN | apply IsS122.drew | apply IsS122.set_1 | apply IsS122.set_2) | exact HI351.out)) (by (with_reducible repeat (first | apply Kd.R_alloc | apply Kd.R_drewN | apply Kd.R_drew)); exact HO_5.out) (by decide)) hk (fun _ h => h.2)) (fun _ h => h.1)); have n1_ := Aside0.mk (Kd.R_mono (Kd.R_keep (IsS122.apart (show IsS122 w _ gb351 l0 x352001_5 x352002_5 from by repeat (first | (with_reducible first | exact HI351.out | apply IsS122.alloc | apply IsS122.drewN | apply IsS122.drew | apply IsS122.set_1 | apply IsS122.set_2) | exact HI351.out)) (by (with_reducible repeat (first | apply Kd.R_alloc | apply Kd.R_drewN | apply Kd.R_drew)); exact HO_7.out) (by decide)) hk (fun _ h => h.2)) (fun _ h => h.1)); have n2_ := Aside0.mk (hb); have n3_ := Aside0.mk (hi); clear HO_5; clear HO_7; clear HB; clear HI351; have HO_5 := n0_; have HO_7 := n1_; have HB := n2_; have HI351 := n3_; clear n0_ n1_ n2_ n3_; (try clear hb); (try clear hb2); (try clear hk); (try clear hi)))
       go_ret2
       exact ⟨_, _, by first | rfl | (simp [errW_none, errW_some] <;> rfl) | (simp [*, errW_none, errW_some] <;> rfl), by (with_reducible repeat (first | apply Kd.R_alloc | apply Kd.R_drewN | apply Kd.R_drew)); exact HO_5.out, by (with_reducible repeat (first | apply Kd.R_alloc | apply Kd.R_drewN | apply Kd.R_drew)); exact HO_7.out, by repeat (first | (with_reducible first | exact HB.out | apply below_alloc | apply pw_below_drewN | apply below_drew1 | refine below_set ?_ (IsS122.ge HI351.out)) | exact HB.out)⟩
     ·rw [if_neg c33] at H
      have c33b0 : decide (0 < (x5_20.length : Int)) = false := decide_eq_false c33
      have c33b1 : decide (0 < x5_20.length) = false := decide_eq_false (by omega)
      clear c33
      simp only [Option.some.injEq, Prod.mk.injEq] at H
      obtain ⟨rfl, rfl⟩ := H
      obtain ⟨Ao49, co49, eo49⟩ := Kd.R_slice HO_5.out
      subst eo49
      go_wp2
      go_ret2
      exact ⟨_, _, by first | rfl | (simp [errW_none, errW_some] <;> rfl) | (simp [*, errW_none, errW_some] <;> rfl), by (with_reducible repeat (first | apply Kd.R_alloc | apply Kd.R_drewN | apply Kd.R_drew)); exact HO_5.out, by (with_reducible repeat (first | apply Kd.R_alloc | apply Kd.R_drewN | apply Kd.R_drew)); exact HO_7.out, by repeat (first | (with_reducible first | exact HB.out | apply below_alloc | apply pw_below_drewN | apply below_drew1 | refine below_set ?_ (IsS122.ge HI351.out)) | exact HB.out)⟩
end Go.Proofs.Ytfajabboibcgpaa.PA
end
section
namespace Go.Proofs.Ytfajabboibcgpaa.PA
open Go.RowKit Go.Proofs.YtfajabboibcgpaaW.PrintWords Go.Proofs.YtfajabboibcgpaaW.PrintLast Go.Proofs.YtfajabboibcgpaaW.PrintMore
attribute [local go_sem] max2_int min2_int max_two min_two max_three min_three max_four min_four   -- for this text's walks alone
set_option linter.unusedVariables false
set_option linter.unusedSimpArgs false
def spec_l1All.l0 : Nat → Int → Int → List Int → Int → Int → Option (Bool)
 | 0, _, _, _, _, _ => none
 | k + 1, x1, x2, x9, x10, x11 => if x11 < x10 then (if 0 ≤ x11 then (if x11 < (x9.length : Int) then ((spec_l1In.f (rd x9 x11) x1 x2).bind fun t384 => (if t384 = true then (spec_l1All.l0 k x1 x2 x9 x10 (wrap64 (x11 + 1))) else (some false))) else (none)) else (none)) else (some true)
def spec_l1All.f (k : Nat) (l0 : List Int) (a1 : Int) (a2 : Int) : Option (Bool) := spec_l1All.l0 k a1 a2 l0 (l0.length : Int) 0
set_option maxHeartbeats 8000000 in
set_option maxRecDepth 100000 in
theorem spec_l1All.calls (k : Nat) (A0 : Option Addr) (c0 : Nat) (l0 : List Int) (a1 : Int) (a2 : Int) (r : Bool) (w : World) (hr0 : Kd.C (Kd.int .i64) w A0 l0.length l0) (hc0 : l0.length ≤ c0) (h : spec_l1All.f k l0 a1 a2 = some r) :
  Calls Try.prog 111 #[.slice A0 l0.length c0, .int .i64 a1, .int .i64 a2] w fun e w' => e = .returned (.bool r) ∧ Drawn0 w w' := by
 have HR0 := Aside0.mk hr0
 have HC0 := Aside0.mk hc0
 clear hr0 hc0
 have H : (spec_l1All.l0 k a1 a2 l0 (l0.length : Int) 0) = some r := h
 clear h
 have H' := Aside0.mk H
 clear H
 go_enter Try.func111, Try.ntmps111
 go_wp2
 go_loopg [11] k (fun kq v11 w' => ∃ (x11_1 : Int), v11 = .int .i64 x11_1 ∧ Aside0 (spec_l1All.l0 kq a1 a2 l0 (l0.length : Int) x11_1 = some r) ∧ Aside0 (kq ≤ k) ∧ Drawn0 w w')
 case atStart => exact ⟨(0), (by first | rfl | (simp; done) | (simp [*]; done) | (simp [bne]; done)), H', ⟨Nat.le_refl _⟩, by repeat (first | exact Drawn0.refl _ | apply Drawn0.step)⟩
 case round =>
  clear H'
  try clear c1
  try clear p2
  obtain ⟨x11_1, rfl, HA, HK1, ⟨m1, rfl⟩⟩ := hrel
  cases gk with
  | zero => exact absurd HA.out (by simp [spec_l1All.l0])
  | succ k1 =>
   have H := HA.out
   clear HA
   simp only [spec_l1All.l0] at H
   by_cases c4 : x11_1 < (l0.length : Int)
   ·rw [if_pos c4] at H
    have c4b0 : decide (x11_1 < (l0.length : Int)) = true := decide_eq_true c4
    clear c4
    by_cases c5 : 0 ≤ x11_1
    ·rw [if_pos c5] at H
     have c5b0 : decide (0 ≤ x11_1) = true := decide_eq_true c5
     clear c5
     by_cases c6 : x11_1 < (l0.length : Int)
     ·rw [if_pos c6] at H
      have c6b0 : decide (x11_1 < (l0.length : Int)) = true := decide_eq_true c6
      clear c6
      replace H := Option.bind_eq_some_iff.mp H
      obtain ⟨t384, A70, H⟩ := H
      replace H : (if t384 = true then (spec_l1All.l0 k1 a1 a2 l0 (l0.length : Int) (wrap64 (x11_1 + 1))) else (some false)) = some r := H
      have A7 := Aside0.mk A70
      clear A70
      by_cases c8 : t384 = true
      ·subst c8
       have H1 : (spec_l1All.l0 k1 a1 a2 l0 (l0.length : Int) (wrap64 (x11_1 + 1))) = some r := by rw [if_pos rfl] at H; exact H
       clear H
       have H := H1
       clear H1
       have H' := Aside0.mk H
       clear H
       have p383 : 0 ≤ (x11_1 : Int) := of_decide_eq_true (by first | (with_reducible assumption) | assumption)
       have q383 : x11_1 < (l0.length : Int) := of_decide_eq_true (by first | (with_reducible assumption) | assumption)
       obtain ⟨ad383, e383, hx383_0⟩ := Kd.at_int HR0.out x11_1 p383 q383
       cases e383
       replace p383 := eq_true p383
       replace q383 := eq_true q383
       go_wp2_with (first | ((with_reducible refine gate_callee (f := 106) rfl ?_); refine goesL_ (some 18) rfl rfl Try.func106 (by kernel_rfl) rfl #[.int .i64 (rd l0 x11_1), .int .i64 a1, .int .i64 a2] rfl (by (try simp only [List.map_toArray, List.map_cons, List.map_nil]); first | done | rfl | (simp only [List.length_drop, List.length_take]; rfl)) ?_; (with_reducible refine (spec_l1In.calls (rd l0 x11_1) a1 a2 true _ A7.out).mono ?_); rintro e w' ⟨rfl, ⟨nd, rfl⟩⟩; refine ⟨_, rfl, ?_⟩))
       go_roundg k1
       case measure => have := HK1.out; omega
       case rel => exact ⟨(wrap64 (x11_1 + 1)), (by first | rfl | (simp; done) | (simp [*]; done) | (simp [bne]; done)), H', ⟨by have := HK1.out; omega⟩, by repeat (first | exact Drawn0.refl _ | apply Drawn0.step)⟩
      ·replace c8 := Bool.eq_false_iff.mpr c8
       subst c8
       have H1 : (some false) = some r := by rw [if_neg (show ¬ (false = true) by decide)] at H; exact H
       clear H
       have H := H1
       clear H1
       obtain rfl := Option.some.inj H
       have p383 : 0 ≤ (x11_1 : Int) := of_decide_eq_true (by first | (with_reducible assumption) | assumption)
       have q383 : x11_1 < (l0.length : Int) := of_decide_eq_true (by first | (with_reducible assumption) | assumption)
       obtain ⟨ad383, e383, hx383_0⟩ := Kd.at_int HR0.out x11_1 p383 q383
       cases e383
       replace p383 := eq_true p383
       replace q383 := eq_true q383
       go_wp2_with (first | ((with_reducible refine gate_callee (f := 106) rfl ?_); refine goesL_ (some 18) rfl rfl Try.func106 (by kernel_rfl) rfl #[.int .i64 (rd l0 x11_1), .int .i64 a1, .int .i64 a2] rfl (by (try simp only [List.map_toArray, List.map_cons, List.map_nil]); first | done | rfl | (simp only [List.length_drop, List.length_take]; rfl)) ?_; (with_reducible refine (spec_l1In.calls (rd l0 x11_1) a1 a2 false _ A7.out).mono ?_); rintro e w' ⟨rfl, ⟨nd, rfl⟩⟩; refine ⟨_, rfl, ?_⟩))
       go_ret
       exact ⟨by first | rfl | (simp; done) | (simp [*]; done) | (simp [bne]; done), by repeat (first | exact Drawn0.refl _ | apply Drawn0.step)⟩
     ·rw [if_neg c6] at H
      exact absurd H (by simp)
    ·rw [if_neg c5] at H
     exact absurd H (by simp)
   ·rw [if_neg c4] at H
    have c4b0 : decide (x11_1 < (l0.length : Int)) = false := decide_eq_false c4
    clear c4
    obtain rfl := Option.some.inj H
    go_wp2
    go_ret
    exact ⟨by first | rfl | (simp; done) | (simp [*]; done) | (simp [bne]; done), by repeat (first | exact Drawn0.refl _ | apply Drawn0.step)⟩
mutual
def spec_IsBelow.j0 : Nat → List Int → List Int → Bool → Option (Bool × Bool)
 | 0, _, _, _ => none
 | k + 1, x0, x1, x25 => if x25 = true then (some (false, false)) else (spec_IsBelow.l0 k x1 x0 (x0.length : Int) 0)
def spec_IsBelow.l0 : Nat → List Int → List Int → Int → Int → Option (Bool × Bool)
 | 0, _, _, _, _ => none
 | k + 1, x1, x26, x27, x28 => if x28 < x27 then (if 0 ≤ x28 then (if x28 < (x26.length : Int) then (if x28 < (x1.length : Int) then (if (rd x26 x28) > (rd x1 x28) then (some (false, true)) else (spec_IsBelow.l0 k x1 x26 x27 (wrap64 (x28 + 1)))) else (none)) else (none)) else (none)) else (some (true, true))
end
def spec_IsBelow.f (k : Nat) (l0 : List Int) (l1 : List Int) : Option (Bool × Bool) := if (l0.length : Int) = 11 then (if (l1.length : Int) = 11 then ((spec_l1All.f k l0 0 15).bind fun t385 => (if t385 = true then ((spec_l1All.f k l1 0 15).bind fun t386 => (spec_IsBelow.j0 k l0 l1 (!t386))) else (spec_IsBelow.j0 k l0 l1 true))) else (spec_IsBelow.j0 k l0 l1 true)) else (spec_IsBelow.j0 k l0 l1 true)
set_option maxHeartbeats 8000000 in
set_option maxRecDepth 100000 in
theorem spec_IsBelow.calls (k : Nat) (A0 : Option Addr) (c0 : Nat) (l0 : List Int) (A1 : Option Addr) (c1 : Nat) (l1 : List Int) (r1 : Bool) (r2 : Bool) (w : World) (hr0 : Kd.C (Kd.int .i64) w A0 l0.length l0) (hc0 : l0.length ≤ c0) (hr1 : Kd.C (Kd.int .i64) w A1 l1.length l1) (hc1 : l1.length ≤ c1) (h : spec_IsBelow.f k l0 l1 = some (r1, r2)) :
  Calls Try.prog 30 #[.slice A0 l0.length c0, .slice A1 l1.length c1] w fun e w' => e = .returned (.tuple #[.bool r1, .bool r2]) ∧ Drawn0 w w' := by
 have HR0 := Aside0.mk hr0
 have HC0 := Aside0.mk hc0
 clear hr0 hc0
 have HR1 := Aside0.mk hr1
 have HC1 := Aside0.mk hc1
 clear hr1 hc1
 have H : (if (l0.length : Int) = 11 then (if (l1.length : Int) = 11 then ((spec_l1All.f k l0 0 15).bind fun t385 => (if t385 = true then ((spec_l1All.f k l1 0 15).bind fun t386 => (spec_IsBelow.j0 k l0 l1 (!t386))) else (spec_IsBelow.j0 k l0 l1 true))) else (spec_IsBelow.j0 k l0 l1 true)) else (spec_IsBelow.j0 k l0 l1 true)) = some (r1, r2) := h
 clear h
 have HC3 := Aside0.mk H
 clear H
 go_enter Try.func30, Try.ntmps30
 go_upto_region 1 with (fail)
 go_cut [25] (fun v25 wc => ∃ (kq : Nat) (x25_2 : Bool), v25 = .bool x25_2 ∧ Aside0 (spec_IsBelow.j0 kq l0 l1 x25_2 = some (r1, r2)) ∧ Aside0 (kq ≤ k) ∧ Drawn0 w wc)
 case first =>
  have H := HC3.out
  clear HC3
  by_cases c4 : (l0.length : Int) = 11
  ·rw [if_pos c4] at H
   have c4b0 : ((l0.length : Int) == 11) = true := beq_iff_eq.mpr c4
   have c4b1 : ((l0.length : Int) != 11) = false := bne_eq_false_iff_eq.mpr c4
   clear c4
   (first | rw [c4b0] | (simp only [i64_w, i32_w]; rw [c4b0]) | skip)
   by_cases c5 : (l1.length : Int) = 11
   ·rw [if_pos c5] at H
    have c5b0 : ((l1.length : Int) == 11) = true := beq_iff_eq.mpr c5
    have c5b1 : ((l1.length : Int) != 11) = false := bne_eq_false_iff_eq.mpr c5
    clear c5
    replace H := Option.bind_eq_some_iff.mp H
    obtain ⟨t385, A60, H⟩ := H
    replace H : (if t385 = true then ((spec_l1All.f k l1 0 15).bind fun t386 => (spec_IsBelow.j0 k l0 l1 (!t386))) else (spec_IsBelow.j0 k l0 l1 true)) = some (r1, r2) := H
    have A6 := Aside0.mk A60
    clear A60
    by_cases c7 : t385 = true
    ·subst c7
     have H1 : ((spec_l1All.f k l1 0 15).bind fun t386 => (spec_IsBelow.j0 k l0 l1 (!t386))) = some (r1, r2) := by rw [if_pos rfl] at H; exact H
     clear H
     have H := H1
     clear H1
     replace H := Option.bind_eq_some_iff.mp H
     obtain ⟨t386, A80, H⟩ := H
     replace H : (spec_IsBelow.j0 k l0 l1 (!t386)) = some (r1, r2) := H
     have A8 := Aside0.mk A80
     clear A80
     have H' := Aside0.mk H
     clear H
     go_wp2_with (first | (go_at_call 111; (with_reducible refine (spec_l1All.calls k _ _ l0 0 15 true _ ?side1 ?side2 A6.out).mono ?_); (case side1 => repeat (first | exact HR0.out | (with_reducible refine Kd.C_alloc ?_ _) | (with_reducible refine Kd.C_drewN ?_ _) | (with_reducible refine Kd.C_drew ?_))); (case side2 => exact HC0.out); rintro e w' ⟨rfl, ⟨nd, rfl⟩⟩) | (go_at_call 111; (with_reducible refine (spec_l1All.calls k _ _ l1 0 15 t386 _ ?side1 ?side2 A8.out).mono ?_); (case side1 => repeat (first | exact HR1.out | (with_reducible refine Kd.C_alloc ?_ _) | (with_reducible refine Kd.C_drewN ?_ _) | (with_reducible refine Kd.C_drew ?_))); (case side2 => exact HC1.out); rintro e w' ⟨rfl, ⟨nd, rfl⟩⟩))
     go_meet
     case rel => exact ⟨_, (!t386), (by first | rfl | (simp; done) | (simp [*]; done) | (simp [bne]; done)), H', ⟨by first | omega | exact Nat.le_refl _⟩, by repeat (first | exact Drawn0.refl _ | apply Drawn0.step)⟩
    ·replace c7 := Bool.eq_false_iff.mpr c7
     subst c7
     have H1 : (spec_IsBelow.j0 k l0 l1 true) = some (r1, r2) := by rw [if_neg (show ¬ (false = true) by decide)] at H; exact H
     clear H
     have H := H1
     clear H1
     have H' := Aside0.mk H
     clear H
     go_wp2_with (first | (go_at_call 111; (with_reducible refine (spec_l1All.calls k _ _ l0 0 15 false _ ?side1 ?side2 A6.out).mono ?_); (case side1 => repeat (first | exact HR0.out | (with_reducible refine Kd.C_alloc ?_ _) | (with_reducible refine Kd.C_drewN ?_ _) | (with_reducible refine Kd.C_drew ?_))); (case side2 => exact HC0.out); rintro e w' ⟨rfl, ⟨nd, rfl⟩⟩))
     go_meet
     case rel => exact ⟨_, (true), (by first | rfl | (simp; done) | (simp [*]; done) | (simp [bne]; done)), H', ⟨by first | omega | exact Nat.le_refl _⟩, by repeat (first | exact Drawn0.refl _ | apply Drawn0.step)⟩
   ·rw [if_neg c5] at H
    have c5b0 : ((l1.length : Int) == 11) = false := beq_eq_false_iff_ne.mpr c5
    have c5b1 : ((l1.length : Int) != 11) = true := bne_iff_ne.mpr c5
    have H' := Aside0.mk H
    clear H
    go_wp2
    go_meet
    case rel => exact ⟨_, (true), (by first | rfl | (simp; done) | (simp [*]; done) | (simp [bne]; done)), H', ⟨by first | omega | exact Nat.le_refl _⟩, by repeat (first | exact Drawn0.refl _ | apply Drawn0.step)⟩
  ·rw [if_neg c4] at H
   have c4b0 : ((l0.length : Int) == 11) = false := beq_eq_false_iff_ne.mpr c4
   have c4b1 : ((l0.length : Int) != 11) = true := bne_iff_ne.mpr c4
   (first | rw [c4b0] | (simp only [i64_w, i32_w]; rw [c4b0]) | skip)
   have H' := Aside0.mk H
   clear H
   go_wp2
   go_meet
   case rel => exact ⟨_, (true), (by first | rfl | (simp; done) | (simp [*]; done) | (simp [bne]; done)), H', ⟨by first | omega | exact Nat.le_refl _⟩, by repeat (first | exact Drawn0.refl _ | apply Drawn0.step)⟩
 case rest =>
  clear HC3
  try clear c1
  try clear p2
  try clear c3
  try clear c4
  try clear c4b0
  try clear c4b1
  try clear c5
  try clear c5b0
  try clear c5b1
  try clear c7
  obtain ⟨kq, x25_2, rfl, HA, HJ2, ⟨mc2, rfl⟩⟩ := hcut
  cases kq with
  | zero => exact absurd HA.out (by simp [spec_IsBelow.j0])
  | succ kj2 =>
   have H := HA.out
   clear HA
   simp only [spec_IsBelow.j0] at H
   by_cases c9 : x25_2 = true
   ·subst c9
    have H1 : (some (false, false)) = some (r1, r2) := by rw [if_pos rfl] at H; exact H
    clear H
    have H := H1
    clear H1
    simp only [Option.some.injEq, Prod.mk.injEq] at H
    obtain ⟨rfl, rfl⟩ := H
    go_wp2
    go_ret2
    exact ⟨by first | rfl | (simp; done) | (simp [*]; done) | (simp [bne]; done), by repeat (first | exact Drawn0.refl _ | apply Drawn0.step)⟩
   ·replace c9 := Bool.eq_false_iff.mpr c9
    subst c9
    have H1 : (spec_IsBelow.l0 kj2 l1 l0 (l0.length : Int) 0) = some (r1, r2) := by rw [if_neg (show ¬ (false = true) by decide)] at H; exact H
    clear H
    have H := H1
    clear H1
    have H' := Aside0.mk H
    clear H
    go_wp2
    go_loopg [28] kj2 (fun kq v28 w' => ∃ (x28_2 : Int), v28 = .int .i64 x28_2 ∧ Aside0 (spec_IsBelow.l0 kq l1 l0 (l0.length : Int) x28_2 = some (r1, r2)) ∧ Aside0 (kq ≤ kj2) ∧ Drawn0 w w')
    case atStart => exact ⟨(0), (by first | rfl | (simp; done) | (simp [*]; done) | (simp [bne]; done)), H', ⟨Nat.le_refl _⟩, by repeat (first | exact Drawn0.refl _ | apply Drawn0.step)⟩
    case round =>
     clear H'
     try clear c1
     try clear c2
     try clear p2
     try clear c3
     try clear c4
     try clear c4b0
     try clear c4b1
     try clear c5
     try clear c5b0
     try clear c5b1
     try clear c7
     try clear c9
     try clear p2
     obtain ⟨x28_2, rfl, HA, HK2, ⟨m2, rfl⟩⟩ := hrel
     cases gk with
     | zero => exact absurd HA.out (by simp [spec_IsBelow.l0])
     | succ k2 =>
      have H := HA.out
      clear HA
      simp only [spec_IsBelow.l0] at H
      by_cases c10 : x28_2 < (l0.length : Int)
      ·rw [if_pos c10] at H
       have c10b0 : decide (x28_2 < (l0.length : Int)) = true := decide_eq_true c10
       clear c10
       by_cases c11 : 0 ≤ x28_2
       ·rw [if_pos c11] at H
        have c11b0 : decide (0 ≤ x28_2) = true := decide_eq_true c11
        clear c11
        by_cases c12 : x28_2 < (l0.length : Int)
        ·rw [if_pos c12] at H
         have c12b0 : decide (x28_2 < (l0.length : Int)) = true := decide_eq_true c12
         clear c12
         by_cases c13 : x28_2 < (l1.length : Int)
         ·rw [if_pos c13] at H
          have c13b0 : decide (x28_2 < (l1.length : Int)) = true := decide_eq_true c13
          clear c13
          by_cases c14 : (rd l0 x28_2) > (rd l1 x28_2)
          ·rw [if_pos c14] at H
           have c14b0 : decide ((rd l1 x28_2) < (rd l0 x28_2)) = true := decide_eq_true c14
           clear c14
           simp only [Option.some.injEq, Prod.mk.injEq] at H
           obtain ⟨rfl, rfl⟩ := H
           have p387 : 0 ≤ (x28_2 : Int) := of_decide_eq_true (by first | (with_reducible assumption) | assumption)
           have q387 : x28_2 < (l0.length : Int) := of_decide_eq_true (by first | (with_reducible assumption) | assumption)
           obtain ⟨ad387, e387, hx387_0⟩ := Kd.at_int HR0.out x28_2 p387 q387
           cases e387
           replace p387 := eq_true p387
           replace q387 := eq_true q387
           have p388 : 0 ≤ (x28_2 : Int) := of_decide_eq_true (by first | (with_reducible assumption) | assumption)
           have q388 : x28_2 < (l1.length : Int) := of_decide_eq_true (by first | (with_reducible assumption) | assumption)
           obtain ⟨ad388, e388, hx388_0⟩ := Kd.at_int HR1.out x28_2 p388 q388
           cases e388
           replace p388 := eq_true p388
           replace q388 := eq_true q388
           go_wp2
           go_ret2
           exact ⟨by first | rfl | (simp; done) | (simp [*]; done) | (simp [bne]; done), by repeat (first | exact Drawn0.refl _ | apply Drawn0.step)⟩
          ·rw [if_neg c14] at H
           have c14b0 : decide ((rd l1 x28_2) < (rd l0 x28_2)) = false := decide_eq_false c14
           clear c14
           have H' := Aside0.mk H
           clear H
           have p387 : 0 ≤ (x28_2 : Int) := of_decide_eq_true (by first | (with_reducible assumption) | assumption)
           have q387 : x28_2 < (l0.length : Int) := of_decide_eq_true (by first | (with_reducible assumption) | assumption)
           obtain ⟨ad387, e387, hx387_0⟩ := Kd.at_int HR0.out x28_2 p387 q387
           cases e387
           replace p387 := eq_true p387
           replace q387 := eq_true q387
           have p388 : 0 ≤ (x28_2 : Int) := of_decide_eq_true (by first | (with_reducible assumption) | assumption)
           have q388 : x28_2 < (l1.length : Int) := of_decide_eq_true (by first | (with_reducible assumption) | assumption)
           obtain ⟨ad388, e388, hx388_0⟩ := Kd.at_int HR1.out x28_2 p388 q388
           cases e388
           replace p388 := eq_true p388
           replace q388 := eq_true q388
           go_wp2
           go_roundg k2
           case measure => have := HJ2.out; have := HK2.out; omega
           case rel => exact ⟨(wrap64 (x28_2 + 1)), (by first | rfl | (simp; done) | (simp [*]; done) | (simp [bne]; done)), H', ⟨by have := HJ2.out; have := HK2.out; omega⟩, by repeat (first | exact Drawn0.refl _ | apply Drawn0.step)⟩
         ·rw [if_neg c13] at H
          exact absurd H (by simp)
        ·rw [if_neg c12] at H
         exact absurd H (by simp)
       ·rw [if_neg c11] at H
        exact absurd H (by simp)
      ·rw [if_neg c10] at H
       have c10b0 : decide (x28_2 < (l0.length : Int)) = false := decide_eq_false c10
       clear c10
       simp only [Option.some.injEq, Prod.mk.injEq] at H
       obtain ⟨rfl, rfl⟩ := H
       go_wp2
       go_ret2
       exact ⟨by first | rfl | (simp; done) | (simp [*]; done) | (simp [bne]; done), by repeat (first | exact Drawn0.refl _ | apply Drawn0.step)⟩
end Go.Proofs.Ytfajabboibcgpaa.PA
end
section
namespace Go.Proofs.Ytfajabboibcgpaa.PA
open Go.RowKit Go.Proofs.YtfajabboibcgpaaW.PrintWords Go.Proofs.YtfajabboibcgpaaW.PrintLast Go.Proofs.YtfajabboibcgpaaW.PrintMore
attribute [local go_sem] max2_int min2_int max_two min_two max_three min_three max_four min_four   -- for this text's walks alone
set_option linter.unusedVariables false
set_option linter.unusedSimpArgs false
mutual
def laws_FnDigits.j0 : Nat → List Int → List Int → List Int → Bool → List Int → Bool → Bool → Option (Bool)
 | 0, _, _, _, _, _, _, _ => none
 | k + 1, x0, x1, x7, x8, x11, x12, x66 => if x66 = true then (some false) else (if x8 = true then (laws_FnDigits.j1 k x0 x1 x7 x11 x12) else (laws_FnDigits.j1 k x0 x1 x7 x11 false))
def laws_FnDigits.j1 : Nat → List Int → List Int → List Int → List Int → Bool → Option (Bool)
 | 0, _, _, _, _, _ => none
 | k + 1, x0, x1, x7, x11, x70 => if x70 = true then ((impl_IsBelow.f k x7 x11).bind fun bt404 => (if bt404.2 = true then ((laws_sameInts.f k x7 x11).bind fun t406 => (if (bt404.1 != t406) = true then (some false) else (laws_FnDigits.j2 k x0 x1))) else (some false))) else (laws_FnDigits.j2 k x0 x1)
def laws_FnDigits.j2 : Nat → List Int → List Int → Option (Bool)
 | 0, _, _ => none
 | k + 1, x0, x1 => (spec_DrawChainOf.f x1).bind fun bt407 => ((impl_ChainOf.f k bt407.1 bt407.2.1 bt407.2.2).bind fun bt410 => ((spec_ChainOf.f k bt407.1 bt407.2.1 bt407.2.2).bind fun bt412 => (if (bt410.2 != bt412.2) = true then (laws_FnDigits.j3 k x0 x1 bt407.1 bt407.2.1 bt407.2.2 bt410.1 bt410.2 true) else (laws_FnDigits.j3 k x0 x1 bt407.1 bt407.2.1 bt407.2.2 bt410.1 bt410.2 (bt410.1.toList != bt412.1.toList)))))
def laws_FnDigits.j3 : Nat → List Int → List Int → ByteArray → Int → Int → ByteArray → Bool → Bool → Option (Bool)
 | 0, _, _, _, _, _, _, _, _ => none
 | k + 1, x0, x1, x15, x16, x17, x18, x19, x113 => if x113 = true then (some false) else (if x19 = true then ((laws_numberOf.f k x0).bind fun t414 => (if (wrap64 (x17 + 1)) = 0 then (none) else ((impl_ChainOf.f k x15 x16 (Int.tmod t414 (wrap64 (x17 + 1)))).bind fun bt415 => ((impl_ChainOf.f k bt415.1 (wrap64 (x16 + (Int.tmod t414 (wrap64 (x17 + 1))))) (wrap64 (x17 - (Int.tmod t414 (wrap64 (x17 + 1)))))).bind fun bt417 => (if bt415.2 = true then (if bt417.2 = true then (laws_FnDigits.j4 k x1 (bt417.1.toList != x18.toList)) else (laws_FnDigits.j4 k x1 true)) else (laws_FnDigits.j4 k x1 true)))))) else ((spec_DrawIsBelow.f k x1).bind fun bt429 => ((impl_IsBelow.f k bt429.1 bt429.2).bind fun bt435 => ((spec_IsBelow.f k bt429.1 bt429.2).bind fun bt437 => (if (bt435.2 == bt437.2) = true then (some (bt435.1 == bt437.1)) else (some false))))))
def laws_FnDigits.j4 : Nat → List Int → Bool → Option (Bool)
 | 0, _, _ => none
 | k + 1, x1, x148 => if x148 = true then (some false) else ((spec_DrawIsBelow.f k x1).bind fun bt419 => ((impl_IsBelow.f k bt419.1 bt419.2).bind fun bt425 => ((spec_IsBelow.f k bt419.1 bt419.2).bind fun bt427 => (if (bt425.2 == bt427.2) = true then (some (bt425.1 == bt427.1)) else (some false)))))
end
def laws_FnDigits.f (k : Nat) (l0 : List Int) (l1 : List Int) : Option (Bool) := if (wrap64 ((l0.length : Int) + (l1.length : Int))) > 1048576 then (some true) else ((spec_DrawDigitsOf.f l0).bind fun t389 => ((spec_DrawDigitsOf.f l1).bind fun t390 => ((impl_DigitsOf.f k t389).bind fun bt391 => ((spec_DigitsOf.f k t389).bind fun bt395 => ((impl_DigitsOf.f k t390).bind fun bt399 => (if (bt391.2 != bt395.2) = true then (laws_FnDigits.j0 k l0 l1 bt391.1 bt391.2 bt399.1 bt399.2 true) else ((laws_sameInts.f k bt391.1 bt395.1).bind fun t403 => (laws_FnDigits.j0 k l0 l1 bt391.1 bt391.2 bt399.1 bt399.2 (!t403)))))))))
set_option maxHeartbeats 8000000 in
set_option maxRecDepth 100000 in
theorem laws_FnDigits.calls (k : Nat) (A0 : Option Addr) (c0 : Nat) (l0 : List Int) (A1 : Option Addr) (c1 : Nat) (l1 : List Int) (r : Bool) (w : World) (hr0 : Kd.C (Kd.int .u8) w A0 l0.length l0) (hc0 : l0.length ≤ c0) (hr1 : Kd.C (Kd.int .u8) w A1 l1.length l1) (hc1 : l1.length ≤ c1) (h : laws_FnDigits.f k l0 l1 = some r) :
  Calls Try.prog 4 #[.slice A0 l0.length c0, .slice A1 l1.length c1] w fun e w' => e = .returned (.bool r) ∧ Below w.heap.size w w' := by
 have HR0 := Aside0.mk hr0
 have HC0 := Aside0.mk hc0
 clear hr0 hc0
 have HR1 := Aside0.mk hr1
 have HC1 := Aside0.mk hc1
 clear hr1 hc1
 have HB := Aside0.mk (Below.refl w.heap.size w)
 have H : (if (wrap64 ((l0.length : Int) + (l1.length : Int))) > 1048576 then (some true) else ((spec_DrawDigitsOf.f l0).bind fun t389 => ((spec_DrawDigitsOf.f l1).bind fun t390 => ((impl_DigitsOf.f k t389).bind fun bt391 => ((spec_DigitsOf.f k t389).bind fun bt395 => ((impl_DigitsOf.f k t390).bind fun bt399 => (if (bt391.2 != bt395.2) = true then (laws_FnDigits.j0 k l0 l1 bt391.1 bt391.2 bt399.1 bt399.2 true) else ((laws_sameInts.f k bt391.1 bt395.1).bind fun t403 => (laws_FnDigits.j0 k l0 l1 bt391.1 bt391.2 bt399.1 bt399.2 (!t403)))))))))) = some r := h
 clear h
 by_cases c3 : (wrap64 ((l0.length : Int) + (l1.length : Int))) > 1048576
 ·rw [if_pos c3] at H
  have c3b0 : decide (1048576 < (wrap64 ((l0.length : Int) + (l1.length : Int)))) = true := decide_eq_true c3
  clear c3
  as_aux_lemma =>
   obtain rfl := Option.some.inj H
   go_enter Try.func4, Try.ntmps4
   go_wp2
   go_ret
   exact ⟨by first | rfl | (simp [errW_none, errW_some] <;> rfl) | (simp [*, errW_none, errW_some] <;> rfl), by repeat (first | (with_reducible first | exact HB.out | apply below_alloc | apply pw_below_drewN | apply below_drew1) | exact HB.out)⟩
 ·rw [if_neg c3] at H
  have c3b0 : decide (1048576 < (wrap64 ((l0.length : Int) + (l1.length : Int)))) = false := decide_eq_false c3
  clear c3
  replace H := Option.bind_eq_some_iff.mp H
  obtain ⟨t389, A40, H⟩ := H
  replace H : ((spec_DrawDigitsOf.f l1).bind fun t390 => ((impl_DigitsOf.f k t389).bind fun bt391 => ((spec_DigitsOf.f k t389).bind fun bt395 => ((impl_DigitsOf.f k t390).bind fun bt399 => (if (bt391.2 != bt395.2) = true then (laws_FnDigits.j0 k l0 l1 bt391.1 bt391.2 bt399.1 bt399.2 true) else ((laws_sameInts.f k bt391.1 bt395.1).bind fun t403 => (laws_FnDigits.j0 k l0 l1 bt391.1 bt391.2 bt399.1 bt399.2 (!t403)))))))) = some r := H
  have A4 := Aside0.mk A40
  clear A40
  replace H := Option.bind_eq_some_iff.mp H
  obtain ⟨t390, A50, H⟩ := H
  replace H : ((impl_DigitsOf.f k t389).bind fun bt391 => ((spec_DigitsOf.f k t389).bind fun bt395 => ((impl_DigitsOf.f k t390).bind fun bt399 => (if (bt391.2 != bt395.2) = true then (laws_FnDigits.j0 k l0 l1 bt391.1 bt391.2 bt399.1 bt399.2 true) else ((laws_sameInts.f k bt391.1 bt395.1).bind fun t403 => (laws_FnDigits.j0 k l0 l1 bt391.1 bt391.2 bt399.1 bt399.2 (!t403))))))) = some r := H
  have A5 := Aside0.mk A50
  clear A50
  replace H := Option.bind_eq_some_iff.mp H
  obtain ⟨⟨t391, t392⟩, A60, H⟩ := H
  replace H : ((spec_DigitsOf.f k t389).bind fun bt395 => ((impl_DigitsOf.f k t390).bind fun bt399 => (if (t392 != bt395.2) = true then (laws_FnDigits.j0 k l0 l1 t391 t392 bt399.1 bt399.2 true) else ((laws_sameInts.f k t391 bt395.1).bind fun t403 => (laws_FnDigits.j0 k l0 l1 t391 t392 bt399.1 bt399.2 (!t403)))))) = some r := H
  have A6 := Aside0.mk A60
  clear A60
  replace H := Option.bind_eq_some_iff.mp H
  obtain ⟨⟨t395, t396⟩, A70, H⟩ := H
  replace H : ((impl_DigitsOf.f k t390).bind fun bt399 => (if (t392 != t396) = true then (laws_FnDigits.j0 k l0 l1 t391 t392 bt399.1 bt399.2 true) else ((laws_sameInts.f k t391 t395).bind fun t403 => (laws_FnDigits.j0 k l0 l1 t391 t392 bt399.1 bt399.2 (!t403))))) = some r := H
  have A7 := Aside0.mk A70
  clear A70
  replace H := Option.bind_eq_some_iff.mp H
  obtain ⟨⟨t399, t400⟩, A80, H⟩ := H
  replace H : (if (t392 != t396) = true then (laws_FnDigits.j0 k l0 l1 t391 t392 t399 t400 true) else ((laws_sameInts.f k t391 t395).bind fun t403 => (laws_FnDigits.j0 k l0 l1 t391 t392 t399 t400 (!t403)))) = some r := H
  have A8 := Aside0.mk A80
  clear A80
  have HC9 := Aside0.mk H
  clear H
  go_enter Try.func4, Try.ntmps4
  go_upto_region 8 with (first | ((with_reducible refine gate_callee (f := 20) rfl ?_); refine goesL_ (some 40) rfl rfl Try.func20 (by kernel_rfl) rfl #[.slice A0 l0.length c0] rfl (by (try simp only [List.map_toArray, List.map_cons, List.map_nil]); first | done | rfl | (simp only [List.length_drop, List.length_take]; rfl)) ?_; (with_reducible refine (spec_DrawDigitsOf.calls _ _ l0 t389 _ ?side1 ?side2 A4.out).mono ?_); (case side1 => repeat (first | exact HR0.out | (with_reducible refine Kd.C_alloc ?_ _) | (with_reducible refine Kd.C_drewN ?_ _) | (with_reducible refine Kd.C_drew ?_))); (case side2 => exact HC0.out); rintro e w10 ⟨rfl, hb⟩; refine ⟨_, rfl, ?_⟩; have n0_ := Aside0.mk (below_step (by repeat (first | (with_reducible first | exact HB.out | apply below_alloc | apply pw_below_drewN | apply below_drew1) | exact HB.out)) hb); clear HB; have HB := n0_; clear n0_; (try clear hb); (try clear hb2); (try clear hk); (try clear hi)) | ((with_reducible refine gate_callee (f := 20) rfl ?_); refine goesL_ (some 42) rfl rfl Try.func20 (by kernel_rfl) rfl #[.slice A1 l1.length c1] rfl (by (try simp only [List.map_toArray, List.map_cons, List.map_nil]); first | done | rfl | (simp only [List.length_drop, List.length_take]; rfl)) ?_; (with_reducible refine (spec_DrawDigitsOf.calls _ _ l1 t390 _ ?side1 ?side2 A5.out).mono ?_); (case side1 => repeat (first | exact (Kd.C_below HR1.out HB.out) | (with_reducible refine Kd.C_alloc ?_ _) | (with_reducible refine Kd.C_drewN ?_ _) | (with_reducible refine Kd.C_drew ?_))); (case side2 => exact HC1.out); rintro e w11 ⟨rfl, hb⟩; refine ⟨_, rfl, ?_⟩; have n0_ := Aside0.mk (below_step (by repeat (first | (with_reducible first | exact HB.out | apply below_alloc | apply pw_below_drewN | apply below_drew1) | exact HB.out)) hb); clear HB; have HB := n0_; clear n0_; (try clear hb); (try clear hb2); (try clear hk); (try clear hi)) | ((with_reducible refine gate_callee (f := 21) rfl ?_); refine goesL_ (some 45) rfl rfl Try.func21 (by kernel_rfl) rfl #[.string t389] rfl (by (try simp only [List.map_toArray, List.map_cons, List.map_nil]); first | done | rfl | (simp only [List.length_drop, List.length_take]; rfl)) ?_; (with_reducible refine (impl_DigitsOf.calls k t389 t391 t392 _ A6.out).mono ?_); rintro e w12 ⟨v393, rfl, ho0, hb⟩; refine ⟨_, rfl, ?_⟩; have n0_ := Aside0.mk (Kd.R_lower ho0 (below_size (by repeat (first | (with_reducible first | exact HB.out | apply below_alloc | apply pw_below_drewN | apply below_drew1) | exact HB.out)))); have n1_ := Aside0.mk (below_step (by repeat (first | (with_reducible first | exact HB.out | apply below_alloc | apply pw_below_drewN | apply below_drew1) | exact HB.out)) hb); clear HB; have HO394 := n0_; have HB := n1_; clear n0_ n1_; (try clear hb); (try clear hb2); (try clear hk); (try clear hi); (try clear ho0)) | ((with_reducible refine gate_callee (f := 22) rfl ?_); refine goesL_ (some 50) rfl rfl Try.func22 (by kernel_rfl) rfl #[.string t389] rfl (by (try simp only [List.map_toArray, List.map_cons, List.map_nil]); first | done | rfl | (simp only [List.length_drop, List.length_take]; rfl)) ?_; (with_reducible refine (spec_DigitsOf.calls k t389 t395 t396 _ A7.out).mono ?_); rintro e w13 ⟨v397, rfl, ho0, hb⟩; refine ⟨_, rfl, ?_⟩; have n0_ := Aside0.mk (Kd.R_elder' (by (with_reducible repeat (first | apply Kd.R_alloc | apply Kd.R_drewN | apply Kd.R_drew)); exact HO394.out) (Kd.R_base ho0) hb); have n1_ := Aside0.mk (Kd.R_lower (Kd.R_new' ho0 (Kd.R_lt (by (with_reducible repeat (first | apply Kd.R_alloc | apply Kd.R_drewN | apply Kd.R_drew)); exact HO394.out))) (below_size (by repeat (first | (with_reducible first | exact HB.out | apply below_alloc | apply pw_below_drewN | apply below_drew1) | exact HB.out)))); have n2_ := Aside0.mk (below_step (by repeat (first | (with_reducible first | exact HB.out | apply below_alloc | apply pw_below_drewN | apply below_drew1) | exact HB.out)) hb); clear HO394; clear HB; have HO394 := n0_; have HO398 := n1_; have HB := n2_; clear n0_ n1_ n2_; (try clear hb); (try clear hb2); (try clear hk); (try clear hi); (try clear ho0)) | ((with_reducible refine gate_callee (f := 21) rfl ?_); refine goesL_ (some 55) rfl rfl Try.func21 (by kernel_rfl) rfl #[.string t390] rfl (by (try simp only [List.map_toArray, List.map_cons, List.map_nil]); first | done | rfl | (simp only [List.length_drop, List.length_take]; rfl)) ?_; (with_reducible refine (impl_DigitsOf.calls k t390 t399 t400 _ A8.out).mono ?_); rintro e w14 ⟨v401, rfl, ho0, hb⟩; refine ⟨_, rfl, ?_⟩; have n0_ := Aside0.mk (Kd.R_elder' (by (with_reducible repeat (first | apply Kd.R_alloc | apply Kd.R_drewN | apply Kd.R_drew)); exact HO394.out) (Kd.R_base ho0) hb); have n1_ := Aside0.mk (Kd.R_elder' (by (with_reducible repeat (first | apply Kd.R_alloc | apply Kd.R_drewN | apply Kd.R_drew)); exact HO398.out) (Kd.R_base ho0) hb); have n2_ := Aside0.mk (Kd.R_lower (Kd.R_new' (Kd.R_new' ho0 (Kd.R_lt (by (with_reducible repeat (first | apply Kd.R_alloc | apply Kd.R_drewN | apply Kd.R_drew)); exact HO394.out))) (Kd.R_lt (by (with_reducible repeat (first | apply Kd.R_alloc | apply Kd.R_drewN | apply Kd.R_drew)); exact HO398.out))) (below_size (by repeat (first | (with_reducible first | exact HB.out | apply below_alloc | apply pw_below_drewN | apply below_drew1) | exact HB.out)))); have n3_ := Aside0.mk (below_step (by repeat (first | (with_reducible first | exact HB.out | apply below_alloc | apply pw_below_drewN | apply below_drew1) | exact HB.out)) hb); clear HO394; clear HO398; clear HB; have HO394 := n0_; have HO398 := n1_; have HO402 := n2_; have HB := n3_; clear n0_ n1_ n2_ n3_; (try clear hb); (try clear hb2); (try clear hk); (try clear hi); (try clear ho0)))
  (try simp only [Act.put, List.setIfInBounds_toArray, List.set_cons_zero, List.set_cons_succ])
  go_cut [66] (fun v66 wc => ∃ (kq : Nat) (x66_8 : Bool), v66 = .bool x66_8 ∧ Aside0 (laws_FnDigits.j0 kq l0 l1 t391 t392 t399 t400 x66_8 = some r) ∧ Aside0 (kq ≤ k) ∧ Aside0 (Kd.R (Kd.int .i64) 3 wc w.heap.size (fun k_ => some k_ ≠ (v401 : Value).ownBlock) v393 t391) ∧ Aside0 (Kd.R (Kd.int .i64) 3 wc w.heap.size (fun k_ => some k_ ≠ (v393 : Value).ownBlock) v401 t399) ∧ Aside0 (Below w.heap.size w wc))
  case first =>
   have H := HC9.out
   clear HC9
   by_cases c15 : (t392 != t396) = true
   ·rw [if_pos c15] at H
    have c15b0 : (t392 != t396) = true := c15
    (try (have c15b1 : decide (t392 = t396) = false := by simpa using c15))
    (try (have c15b2 : (t392 == t396) = false := by simpa using c15))
    (try (have c15b3 : ¬ (t392 = t396) := by simpa using c15))
    clear c15
    (first | rw [c15b0] | (simp only [i64_w, i32_w]; rw [c15b0]) | skip)
    as_aux_lemma =>
     have H' := Aside0.mk H
     clear H
     go_wp2
     go_meet
     case rel => exact ⟨_, (true), (by first | rfl | (simp; done) | (simp [*]; done) | (simp [bne]; done)), H', ⟨by first | omega | exact Nat.le_refl _⟩, ⟨by (with_reducible repeat (first | apply Kd.R_alloc | apply Kd.R_drewN | apply Kd.R_drew)); exact Kd.R_mono HO394.out (fun _ hk => hk.2)⟩, ⟨by (with_reducible repeat (first | apply Kd.R_alloc | apply Kd.R_drewN | apply Kd.R_drew)); exact Kd.R_mono HO402.out (fun _ hk => hk.1.2)⟩, ⟨by repeat (first | (with_reducible first | exact HB.out | apply below_alloc | apply pw_below_drewN | apply below_drew1) | exact HB.out)⟩⟩
   ·rw [if_neg c15] at H
    have c15b0 : (t392 != t396) = false := by simpa using c15
    (try (have c15b1 : decide (t392 = t396) = true := by simpa using c15))
    (try (have c15b2 : (t392 == t396) = true := by simpa using c15))
    clear c15
    (first | rw [c15b0] | (simp only [i64_w, i32_w]; rw [c15b0]) | skip)
    replace H := Option.bind_eq_some_iff.mp H
    obtain ⟨t403, A160, H⟩ := H
    replace H : (laws_FnDigits.j0 k l0 l1 t391 t392 t399 t400 (!t403)) = some r := H
    have A16 := Aside0.mk A160
    clear A160
    as_aux_lemma =>
     have H' := Aside0.mk H
     clear H
     obtain ⟨Ao17, co17, eo17⟩ := Kd.R_slice HO394.out
     subst eo17
     obtain ⟨Ao18, co18, eo18⟩ := Kd.R_slice HO398.out
     subst eo18
     go_wp2_with (first | (go_at_call 23; (with_reducible refine (laws_sameInts.calls k _ _ t391 _ _ t395 t403 _ ?side1 ?side2 ?side3 ?side4 A16.out).mono ?_); (case side1 => repeat (first | exact (Kd.R_reads' HO394.out).2.2 | (with_reducible refine Kd.C_alloc ?_ _) | (with_reducible refine Kd.C_drewN ?_ _) | (with_reducible refine Kd.C_drew ?_))); (case side2 => exact (Kd.R_reads' HO394.out).2.1); (case side3 => repeat (first | exact (Kd.R_reads' HO398.out).2.2 | (with_reducible refine Kd.C_alloc ?_ _) | (with_reducible refine Kd.C_drewN ?_ _) | (with_reducible refine Kd.C_drew ?_))); (case side4 => exact (Kd.R_reads' HO398.out).2.1); rintro e w' ⟨rfl, ⟨nd, rfl⟩⟩))
     go_meet
     case rel => exact ⟨_, (!t403), (by first | rfl | (simp; done) | (simp [*]; done) | (simp [bne]; done)), H', ⟨by first | omega | exact Nat.le_refl _⟩, ⟨by (with_reducible repeat (first | apply Kd.R_alloc | apply Kd.R_drewN | apply Kd.R_drew)); exact Kd.R_mono HO394.out (fun _ hk => hk.2)⟩, ⟨by (with_reducible repeat (first | apply Kd.R_alloc | apply Kd.R_drewN | apply Kd.R_drew)); exact Kd.R_mono HO402.out (fun _ hk => hk.1.2)⟩, ⟨by repeat (first | (with_reducible first | exact HB.out | apply below_alloc | apply pw_below_drewN | apply below_drew1) | exact HB.out)⟩⟩
  case rest =>
   clear HC9
   try clear c1
   try clear c2
   try clear p2
   try clear c3
   try clear c3b0
   try clear c4
   try clear p6
   try clear c15
   try clear c15b0
   try clear c15b1
   try clear c15b2
   obtain ⟨kq, x66_8, rfl, HA, HJ8, HO_7, HO_11, HB⟩ := hcut
   cases kq with
   | zero => exact absurd HA.out (by simp [laws_FnDigits.j0])
   | succ kj8 =>
    have H := HA.out
    clear HA
    simp only [laws_FnDigits.j0] at H
    by_cases c19 : x66_8 = true
    ·subst c19
     have H1 : (some false) = some r := by rw [if_pos rfl] at H; exact H
     clear H
     have H := H1
     clear H1
     as_aux_lemma =>
      obtain rfl := Option.some.inj H
      go_wp2
      go_ret
      exact ⟨by first | rfl | (simp [errW_none, errW_some] <;> rfl) | (simp [*, errW_none, errW_some] <;> rfl), by repeat (first | (with_reducible first | exact HB.out | apply below_alloc | apply pw_below_drewN | apply below_drew1) | exact HB.out)⟩
    ·replace c19 := Bool.eq_false_iff.mpr c19
     subst c19
     have H1 : (if t392 = true then (laws_FnDigits.j1 kj8 l0 l1 t391 t399 t400) else (laws_FnDigits.j1 kj8 l0 l1 t391 t399 false)) = some r := by rw [if_neg (show ¬ (false = true) by decide)] at H; exact H
     clear H
     have H := H1
     clear H1
     have HC20 := Aside0.mk H
     clear H
     go_upto_region 10 with (fail)
     go_cut [70] (fun v70 wc => ∃ (kq : Nat) (x70_19 : Bool), v70 = .bool x70_19 ∧ Aside0 (laws_FnDigits.j1 kq l0 l1 t391 t399 x70_19 = some r) ∧ Aside0 (kq ≤ kj8) ∧ Aside0 (Kd.R (Kd.int .i64) 3 wc w.heap.size (fun k_ => some k_ ≠ (v401 : Value).ownBlock) v393 t391) ∧ Aside0 (Kd.R (Kd.int .i64) 3 wc w.heap.size (fun k_ => some k_ ≠ (v393 : Value).ownBlock) v401 t399) ∧ Aside0 (Below w.heap.size w wc))
     case first =>
      have H := HC20.out
      clear HC20
      by_cases c21 : t392 = true
      ·subst c21
       have H1 : (laws_FnDigits.j1 kj8 l0 l1 t391 t399 t400) = some r := by rw [if_pos rfl] at H; exact H
       clear H
       have H := H1
       clear H1
       as_aux_lemma =>
        have H' := Aside0.mk H
        clear H
        go_wp2
        go_meet
        case rel => exact ⟨_, (t400), (by first | rfl | (simp; done) | (simp [*]; done) | (simp [bne]; done)), H', ⟨by have := HJ8.out; first | omega | exact Nat.le_refl _⟩, ⟨by (with_reducible repeat (first | apply Kd.R_alloc | apply Kd.R_drewN | apply Kd.R_drew)); exact HO_7.out⟩, ⟨by (with_reducible repeat (first | apply Kd.R_alloc | apply Kd.R_drewN | apply Kd.R_drew)); exact HO_11.out⟩, ⟨by repeat (first | (with_reducible first | exact HB.out | apply below_alloc | apply pw_below_drewN | apply below_drew1) | exact HB.out)⟩⟩
      ·replace c21 := Bool.eq_false_iff.mpr c21
       subst c21
       have H1 : (laws_FnDigits.j1 kj8 l0 l1 t391 t399 false) = some r := by rw [if_neg (show ¬ (false = true) by decide)] at H; exact H
       clear H
       have H := H1
       clear H1
       as_aux_lemma =>
        have H' := Aside0.mk H
        clear H
        go_wp2
        go_meet
        case rel => exact ⟨_, (false), (by first | rfl | (simp; done) | (simp [*]; done) | (simp [bne]; done)), H', ⟨by have := HJ8.out; first | omega | exact Nat.le_refl _⟩, ⟨by (with_reducible repeat (first | apply Kd.R_alloc | apply Kd.R_drewN | apply Kd.R_drew)); exact HO_7.out⟩, ⟨by (with_reducible repeat (first | apply Kd.R_alloc | apply Kd.R_drewN | apply Kd.R_drew)); exact HO_11.out⟩, ⟨by repeat (first | (with_reducible first | exact HB.out | apply below_alloc | apply pw_below_drewN | apply below_drew1) | exact HB.out)⟩⟩
     case rest =>
      clear HC20
      try clear c1
      try clear c2
      try clear p2
      try clear c3
      try clear c3b0
      try clear c4
      try clear p6
      try clear c15
      try clear c15b0
      try clear c15b1
      try clear c15b2
      try clear c19
      try clear c20
      try clear c21
      try clear p2
      try clear p6
      obtain ⟨kq, x70_19, rfl, HA, HJ19, HO_7, HO_11, HB⟩ := hcut
      cases kq with
      | zero => exact absurd HA.out (by simp [laws_FnDigits.j1])
      | succ kj19 =>
       have H := HA.out
       clear HA
       simp only [laws_FnDigits.j1] at H
       have HC22 := Aside0.mk H
       clear H
       go_upto_if 70 with (fail)
       go_cut [] (fun wc => ∃ (kq : Nat), Aside0 (laws_FnDigits.j2 kq l0 l1 = some r) ∧ Aside0 (kq ≤ kj19) ∧ Aside0 (Below w.heap.size w wc))
       case first =>
        have H := HC22.out
        clear HC22
        by_cases c23 : x70_19 = true
        ·subst c23
         have H1 : ((impl_IsBelow.f kj19 t391 t399).bind fun bt404 => (if bt404.2 = true then ((laws_sameInts.f kj19 t391 t399).bind fun t406 => (if (bt404.1 != t406) = true then (some false) else (laws_FnDigits.j2 kj19 l0 l1))) else (some false))) = some r := by rw [if_pos rfl] at H; exact H
         clear H
         have H := H1
         clear H1
         replace H := Option.bind_eq_some_iff.mp H
         obtain ⟨⟨t404, t405⟩, A240, H⟩ := H
         replace H : (if t405 = true then ((laws_sameInts.f kj19 t391 t399).bind fun t406 => (if (t404 != t406) = true then (some false) else (laws_FnDigits.j2 kj19 l0 l1))) else (some false)) = some r := H
         have A24 := Aside0.mk A240
         clear A240
         by_cases c25 : t405 = true
         ·subst c25
          have H1 : ((laws_sameInts.f kj19 t391 t399).bind fun t406 => (if (t404 != t406) = true then (some false) else (laws_FnDigits.j2 kj19 l0 l1))) = some r := by rw [if_pos rfl] at H; exact H
          clear H
          have H := H1
          clear H1
          replace H := Option.bind_eq_some_iff.mp H
          obtain ⟨t406, A260, H⟩ := H
          replace H : (if (t404 != t406) = true then (some false) else (laws_FnDigits.j2 kj19 l0 l1)) = some r := H
          have A26 := Aside0.mk A260
          clear A260
          by_cases c27 : (t404 != t406) = true
          ·rw [if_pos c27] at H
           have c27b0 : (t404 != t406) = true := c27
           (try (have c27b1 : decide (t404 = t406) = false := by simpa using c27))
           (try (have c27b2 : (t404 == t406) = false := by simpa using c27))
           (try (have c27b3 : ¬ (t404 = t406) := by simpa using c27))
           clear c27
           (first | rw [c27b0] | (simp only [i64_w, i32_w]; rw [c27b0]) | skip)
           as_aux_lemma =>
            obtain rfl := Option.some.inj H
            obtain ⟨Ao28, co28, eo28⟩ := Kd.R_slice HO_7.out
            subst eo28
            obtain ⟨Ao29, co29, eo29⟩ := Kd.R_slice HO_11.out
            subst eo29
            go_wp2_with (first | ((with_reducible refine gate_callee (f := 24) rfl ?_); refine goesL_ (some 74) rfl rfl Try.func24 (by kernel_rfl) rfl #[.slice Ao28 t391.length co28, .slice Ao29 t399.length co29] rfl (by (try simp only [List.map_toArray, List.map_cons, List.map_nil]); first | done | rfl | (simp only [List.length_drop, List.length_take]; rfl)) ?_; (with_reducible refine (impl_IsBelow.calls kj19 _ _ t391 _ _ t399 t404 true _ ?side1 ?side2 ?side3 ?side4 A24.out).mono ?_); (case side1 => repeat (first | exact (Kd.R_reads' HO_7.out).2.2 | (with_reducible refine Kd.C_alloc ?_ _) | (with_reducible refine Kd.C_drewN ?_ _) | (with_reducible refine Kd.C_drew ?_))); (case side2 => exact (Kd.R_reads' HO_7.out).2.1); (case side3 => repeat (first | exact (Kd.R_reads' HO_11.out).2.2 | (with_reducible refine Kd.C_alloc ?_ _) | (with_reducible refine Kd.C_drewN ?_ _) | (with_reducible refine Kd.C_drew ?_))); (case side4 => exact (Kd.R_reads' HO_11.out).2.1); rintro e w' ⟨rfl, ⟨nd, rfl⟩⟩; refine ⟨_, rfl, ?_⟩) | (go_at_call 23; (with_reducible refine (laws_sameInts.calls kj19 _ _ t391 _ _ t399 t406 _ ?side1 ?side2 ?side3 ?side4 A26.out).mono ?_); (case side1 => repeat (first | exact (Kd.R_reads' HO_7.out).2.2 | (with_reducible refine Kd.C_alloc ?_ _) | (with_reducible refine Kd.C_drewN ?_ _) | (with_reducible refine Kd.C_drew ?_))); (case side2 => exact (Kd.R_reads' HO_7.out).2.1); (case side3 => repeat (first | exact (Kd.R_reads' HO_11.out).2.2 | (with_reducible refine Kd.C_alloc ?_ _) | (with_reducible refine Kd.C_drewN ?_ _) | (with_reducible refine Kd.C_drew ?_))); (case side4 => exact (Kd.R_reads' HO_11.out).2.1); rintro e w' ⟨rfl, ⟨nd, rfl⟩⟩))
            go_ret
            exact ⟨by first | rfl | (simp [errW_none, errW_some] <;> rfl) | (simp [*, errW_none, errW_some] <;> rfl), by repeat (first | (with_reducible first | exact HB.out | apply below_alloc | apply pw_below_drewN | apply below_drew1) | exact HB.out)⟩
          ·rw [if_neg c27] at H
           have c27b0 : (t404 != t406) = false := by simpa using c27
           (try (have c27b1 : decide (t404 = t406) = true := by simpa using c27))
           (try (have c27b2 : (t404 == t406) = true := by simpa using c27))
           clear c27
           (first | rw [c27b0] | (simp only [i64_w, i32_w]; rw [c27b0]) | skip)
           as_aux_lemma =>
            have H' := Aside0.mk H
            clear H
            obtain ⟨Ao30, co30, eo30⟩ := Kd.R_slice HO_7.out
            subst eo30
            obtain ⟨Ao31, co31, eo31⟩ := Kd.R_slice HO_11.out
            subst eo31
            go_wp2_with (first | ((with_reducible refine gate_callee (f := 24) rfl ?_); refine goesL_ (some 74) rfl rfl Try.func24 (by kernel_rfl) rfl #[.slice Ao30 t391.length co30, .slice Ao31 t399.length co31] rfl (by (try simp only [List.map_toArray, List.map_cons, List.map_nil]); first | done | rfl | (simp only [List.length_drop, List.length_take]; rfl)) ?_; (with_reducible refine (impl_IsBelow.calls kj19 _ _ t391 _ _ t399 t404 true _ ?side1 ?side2 ?side3 ?side4 A24.out).mono ?_); (case side1 => repeat (first | exact (Kd.R_reads' HO_7.out).2.2 | (with_reducible refine Kd.C_alloc ?_ _) | (with_reducible refine Kd.C_drewN ?_ _) | (with_reducible refine Kd.C_drew ?_))); (case side2 => exact (Kd.R_reads' HO_7.out).2.1); (case side3 => repeat (first | exact (Kd.R_reads' HO_11.out).2.2 | (with_reducible refine Kd.C_alloc ?_ _) | (with_reducible refine Kd.C_drewN ?_ _) | (with_reducible refine Kd.C_drew ?_))); (case side4 => exact (Kd.R_reads' HO_11.out).2.1); rintro e w' ⟨rfl, ⟨nd, rfl⟩⟩; refine ⟨_, rfl, ?_⟩) | (go_at_call 23; (with_reducible refine (laws_sameInts.calls kj19 _ _ t391 _ _ t399 t406 _ ?side1 ?side2 ?side3 ?side4 A26.out).mono ?_); (case side1 => repeat (first | exact (Kd.R_reads' HO_7.out).2.2 | (with_reducible refine Kd.C_alloc ?_ _) | (with_reducible refine Kd.C_drewN ?_ _) | (with_reducible refine Kd.C_drew ?_))); (case side2 => exact (Kd.R_reads' HO_7.out).2.1); (case side3 => repeat (first | exact (Kd.R_reads' HO_11.out).2.2 | (with_reducible refine Kd.C_alloc ?_ _) | (with_reducible refine Kd.C_drewN ?_ _) | (with_reducible refine Kd.C_drew ?_))); (case side4 => exact (Kd.R_reads' HO_11.out).2.1); rintro e w' ⟨rfl, ⟨nd, rfl⟩⟩))
            go_meet
            case rel => exact ⟨_, H', ⟨by have := HJ8.out; have := HJ19.out; first | omega | exact Nat.le_refl _⟩, ⟨by repeat (first | (with_reducible first | exact HB.out | apply below_alloc | apply pw_below_drewN | apply below_drew1) | exact HB.out)⟩⟩
         ·replace c25 := Bool.eq_false_iff.mpr c25
          subst c25
          have H1 : (some false) = some r := by rw [if_neg (show ¬ (false = true) by decide)] at H; exact H
          clear H
          have H := H1
          clear H1
          as_aux_lemma =>
           obtain rfl := Option.some.inj H
           obtain ⟨Ao32, co32, eo32⟩ := Kd.R_slice HO_7.out
           subst eo32
           obtain ⟨Ao33, co33, eo33⟩ := Kd.R_slice HO_11.out
           subst eo33
           go_wp2_with (first | ((with_reducible refine gate_callee (f := 24) rfl ?_); refine goesL_ (some 74) rfl rfl Try.func24 (by kernel_rfl) rfl #[.slice Ao32 t391.length co32, .slice Ao33 t399.length co33] rfl (by (try simp only [List.map_toArray, List.map_cons, List.map_nil]); first | done | rfl | (simp only [List.length_drop, List.length_take]; rfl)) ?_; (with_reducible refine (impl_IsBelow.calls kj19 _ _ t391 _ _ t399 t404 false _ ?side1 ?side2 ?side3 ?side4 A24.out).mono ?_); (case side1 => repeat (first | exact (Kd.R_reads' HO_7.out).2.2 | (with_reducible refine Kd.C_alloc ?_ _) | (with_reducible refine Kd.C_drewN ?_ _) | (with_reducible refine Kd.C_drew ?_))); (case side2 => exact (Kd.R_reads' HO_7.out).2.1); (case side3 => repeat (first | exact (Kd.R_reads' HO_11.out).2.2 | (with_reducible refine Kd.C_alloc ?_ _) | (with_reducible refine Kd.C_drewN ?_ _) | (with_reducible refine Kd.C_drew ?_))); (case side4 => exact (Kd.R_reads' HO_11.out).2.1); rintro e w' ⟨rfl, ⟨nd, rfl⟩⟩; refine ⟨_, rfl, ?_⟩))
           go_ret
           exact ⟨by first | rfl | (simp [errW_none, errW_some] <;> rfl) | (simp [*, errW_none, errW_some] <;> rfl), by repeat (first | (with_reducible first | exact HB.out | apply below_alloc | apply pw_below_drewN | apply below_drew1) | exact HB.out)⟩
        ·replace c23 := Bool.eq_false_iff.mpr c23
         subst c23
         have H1 : (laws_FnDigits.j2 kj19 l0 l1) = some r := by rw [if_neg (show ¬ (false = true) by decide)] at H; exact H
         clear H
         have H := H1
         clear H1
         as_aux_lemma =>
          have H' := Aside0.mk H
          clear H
          go_wp2
          go_meet
          case rel => exact ⟨_, H', ⟨by have := HJ8.out; have := HJ19.out; first | omega | exact Nat.le_refl _⟩, ⟨by repeat (first | (with_reducible first | exact HB.out | apply below_alloc | apply pw_below_drewN | apply below_drew1) | exact HB.out)⟩⟩
       case rest =>
        clear HC22
        try clear c1
        try clear c2
        try clear p2
        try clear c3
        try clear c3b0
        try clear c4
        try clear p6
        try clear c15
        try clear c15b0
        try clear c15b1
        try clear c15b2
        try clear c19
        try clear c20
        try clear c21
        try clear c22
        try clear c23
        try clear c24
        try clear c25
        try clear c27
        try clear c27b0
        try clear c27b1
        try clear c27b2
        try clear p2
        try clear p6
        obtain ⟨kq, HA, HJ21, HB⟩ := hcut
        cases kq with
        | zero => exact absurd HA.out (by simp [laws_FnDigits.j2])
        | succ kj21 =>
         have H := HA.out
         clear HA
         simp only [laws_FnDigits.j2] at H
         replace H := Option.bind_eq_some_iff.mp H
         obtain ⟨⟨t407, t408, t409⟩, A340, H⟩ := H
         replace H : ((impl_ChainOf.f kj21 t407 t408 t409).bind fun bt410 => ((spec_ChainOf.f kj21 t407 t408 t409).bind fun bt412 => (if (bt410.2 != bt412.2) = true then (laws_FnDigits.j3 kj21 l0 l1 t407 t408 t409 bt410.1 bt410.2 true) else (laws_FnDigits.j3 kj21 l0 l1 t407 t408 t409 bt410.1 bt410.2 (bt410.1.toList != bt412.1.toList))))) = some r := H
         have A34 := Aside0.mk A340
         clear A340
         replace H := Option.bind_eq_some_iff.mp H
         obtain ⟨⟨t410, t411⟩, A350, H⟩ := H
         replace H : ((spec_ChainOf.f kj21 t407 t408 t409).bind fun bt412 => (if (t411 != bt412.2) = true then (laws_FnDigits.j3 kj21 l0 l1 t407 t408 t409 t410 t411 true) else (laws_FnDigits.j3 kj21 l0 l1 t407 t408 t409 t410 t411 (t410.toList != bt412.1.toList)))) = some r := H
         have A35 := Aside0.mk A350
         clear A350
         replace H := Option.bind_eq_some_iff.mp H
         obtain ⟨⟨t412, t413⟩, A360, H⟩ := H
         replace H : (if (t411 != t413) = true then (laws_FnDigits.j3 kj21 l0 l1 t407 t408 t409 t410 t411 true) else (laws_FnDigits.j3 kj21 l0 l1 t407 t408 t409 t410 t411 (t410.toList != t412.toList))) = some r := H
         have A36 := Aside0.mk A360
         clear A360
         have HC37 := Aside0.mk H
         clear H
         go_upto_region 17 with (first | ((with_reducible refine gate_callee (f := 25) rfl ?_); refine goesL_ (some 88) rfl rfl Try.func25 (by kernel_rfl) rfl #[.slice A1 l1.length c1] rfl (by (try simp only [List.map_toArray, List.map_cons, List.map_nil]); first | done | rfl | (simp only [List.length_drop, List.length_take]; rfl)) ?_; (with_reducible refine (spec_DrawChainOf.calls _ _ l1 t407 t408 t409 _ ?side1 ?side2 A34.out).mono ?_); (case side1 => repeat (first | exact (Kd.C_below HR1.out HB.out) | (with_reducible refine Kd.C_alloc ?_ _) | (with_reducible refine Kd.C_drewN ?_ _) | (with_reducible refine Kd.C_drew ?_))); (case side2 => exact HC1.out); rintro e w38 ⟨rfl, hb⟩; refine ⟨_, rfl, ?_⟩; have n0_ := Aside0.mk (below_step (by repeat (first | (with_reducible first | exact HB.out | apply below_alloc | apply pw_below_drewN | apply below_drew1) | exact HB.out)) hb); clear HB; have HB := n0_; clear n0_; (try clear hb); (try clear hb2); (try clear hk); (try clear hi)) | ((with_reducible refine gate_callee (f := 26) rfl ?_); refine goesL_ (some 96) rfl rfl Try.func26 (by kernel_rfl) rfl #[.string t407, .int .i64 t408, .int .i64 t409] rfl (by (try simp only [List.map_toArray, List.map_cons, List.map_nil]); first | done | rfl | (simp only [List.length_drop, List.length_take]; rfl)) ?_; (with_reducible refine (impl_ChainOf.calls kj21 t407 t408 t409 t410 t411 _ A35.out).mono ?_); rintro e w39 ⟨rfl, hb⟩; refine ⟨_, rfl, ?_⟩; have n0_ := Aside0.mk (below_step (by repeat (first | (with_reducible first | exact HB.out | apply below_alloc | apply pw_below_drewN | apply below_drew1) | exact HB.out)) hb); clear HB; have HB := n0_; clear n0_; (try clear hb); (try clear hb2); (try clear hk); (try clear hi)) | ((with_reducible refine gate_callee (f := 27) rfl ?_); refine goesL_ (some 103) rfl rfl Try.func27 (by kernel_rfl) rfl #[.string t407, .int .i64 t408, .int .i64 t409] rfl (by (try simp only [List.map_toArray, List.map_cons, List.map_nil]); first | done | rfl | (simp only [List.length_drop, List.length_take]; rfl)) ?_; (with_reducible refine (spec_ChainOf.calls kj21 t407 t408 t409 t412 t413 _ A36.out).mono ?_); rintro e w40 ⟨rfl, hb⟩; refine ⟨_, rfl, ?_⟩; have n0_ := Aside0.mk (below_step (by repeat (first | (with_reducible first | exact HB.out | apply below_alloc | apply pw_below_drewN | apply below_drew1) | exact HB.out)) hb); clear HB; have HB := n0_; clear n0_; (try clear hb); (try clear hb2); (try clear hk); (try clear hi)))
         (try simp only [Act.put, List.setIfInBounds_toArray, List.set_cons_zero, List.set_cons_succ])
         go_cut [113] (fun v113 wc => ∃ (kq : Nat) (x113_36 : Bool), v113 = .bool x113_36 ∧ Aside0 (laws_FnDigits.j3 kq l0 l1 t407 t408 t409 t410 t411 x113_36 = some r) ∧ Aside0 (kq ≤ kj21) ∧ Aside0 (Below w.heap.size w wc))
         case first =>
          have H := HC37.out
          clear HC37
          by_cases c41 : (t411 != t413) = true
          ·rw [if_pos c41] at H
           have c41b0 : (t411 != t413) = true := c41
           (try (have c41b1 : decide (t411 = t413) = false := by simpa using c41))
           (try (have c41b2 : (t411 == t413) = false := by simpa using c41))
           (try (have c41b3 : ¬ (t411 = t413) := by simpa using c41))
           clear c41
           (first | rw [c41b0] | (simp only [i64_w, i32_w]; rw [c41b0]) | skip)
           as_aux_lemma =>
            have H' := Aside0.mk H
            clear H
            go_wp2
            go_meet
            case rel => exact ⟨_, (true), (by first | rfl | (simp; done) | (simp [*]; done) | (simp [bne]; done)), H', ⟨by have := HJ8.out; have := HJ19.out; have := HJ21.out; first | omega | exact Nat.le_refl _⟩, ⟨by repeat (first | (with_reducible first | exact HB.out | apply below_alloc | apply pw_below_drewN | apply below_drew1) | exact HB.out)⟩⟩
          ·rw [if_neg c41] at H
           have c41b0 : (t411 != t413) = false := by simpa using c41
           (try (have c41b1 : decide (t411 = t413) = true := by simpa using c41))
           (try (have c41b2 : (t411 == t413) = true := by simpa using c41))
           clear c41
           (first | rw [c41b0] | (simp only [i64_w, i32_w]; rw [c41b0]) | skip)
           as_aux_lemma =>
            have H' := Aside0.mk H
            clear H
            go_wp2
            go_meet
            case rel => exact ⟨_, ((t410.toList != t412.toList)), (by first | rfl | (simp; done) | (simp [*]; done) | (simp [bne]; done)), H', ⟨by have := HJ8.out; have := HJ19.out; have := HJ21.out; first | omega | exact Nat.le_refl _⟩, ⟨by repeat (first | (with_reducible first | exact HB.out | apply below_alloc | apply pw_below_drewN | apply below_drew1) | exact HB.out)⟩⟩
         case rest =>
          clear HC37
          try clear c1
          try clear c2
          try clear p2
          try clear c3
          try clear c3b0
          try clear c4
          try clear p6
          try clear c15
          try clear c15b0
          try clear c15b1
          try clear c15b2
          try clear c19
          try clear c20
          try clear c21
          try clear c22
          try clear c23
          try clear c24
          try clear c25
          try clear c26
          try clear c27
          try clear c27b0
          try clear c27b1
          try clear c27b2
          try clear c41
          try clear c41b0
          try clear c41b1
          try clear c41b2
          try clear p2
          try clear p6
          obtain ⟨kq, x113_36, rfl, HA, HJ36, HB⟩ := hcut
          cases kq with
          | zero => exact absurd HA.out (by simp [laws_FnDigits.j3])
          | succ kj36 =>
           have H := HA.out
           clear HA
           simp only [laws_FnDigits.j3] at H
           by_cases c42 : x113_36 = true
           ·subst c42
            have H1 : (some false) = some r := by rw [if_pos rfl] at H; exact H
            clear H
            have H := H1
            clear H1
            as_aux_lemma =>
             obtain rfl := Option.some.inj H
             go_wp2
             go_ret
             exact ⟨by first | rfl | (simp [errW_none, errW_some] <;> rfl) | (simp [*, errW_none, errW_some] <;> rfl), by repeat (first | (with_reducible first | exact HB.out | apply below_alloc | apply pw_below_drewN | apply below_drew1) | exact HB.out)⟩
           ·replace c42 := Bool.eq_false_iff.mpr c42
            subst c42
            have H1 : (if t411 = true then ((laws_numberOf.f kj36 l0).bind fun t414 => (if (wrap64 (t409 + 1)) = 0 then (none) else ((impl_ChainOf.f kj36 t407 t408 (Int.tmod t414 (wrap64 (t409 + 1)))).bind fun bt415 => ((impl_ChainOf.f kj36 bt415.1 (wrap64 (t408 + (Int.tmod t414 (wrap64 (t409 + 1))))) (wrap64 (t409 - (Int.tmod t414 (wrap64 (t409 + 1)))))).bind fun bt417 => (if bt415.2 = true then (if bt417.2 = true then (laws_FnDigits.j4 kj36 l1 (bt417.1.toList != t410.toList)) else (laws_FnDigits.j4 kj36 l1 true)) else (laws_FnDigits.j4 kj36 l1 true)))))) else ((spec_DrawIsBelow.f kj36 l1).bind fun bt429 => ((impl_IsBelow.f kj36 bt429.1 bt429.2).bind fun bt435 => ((spec_IsBelow.f kj36 bt429.1 bt429.2).bind fun bt437 => (if (bt435.2 == bt437.2) = true then (some (bt435.1 == bt437.1)) else (some false)))))) = some r := by rw [if_neg (show ¬ (false = true) by decide)] at H; exact H
            clear H
            have H := H1
            clear H1
            by_cases c43 : t411 = true
            ·subst c43
             have H1 : ((laws_numberOf.f kj36 l0).bind fun t414 => (if (wrap64 (t409 + 1)) = 0 then (none) else ((impl_ChainOf.f kj36 t407 t408 (Int.tmod t414 (wrap64 (t409 + 1)))).bind fun bt415 => ((impl_ChainOf.f kj36 bt415.1 (wrap64 (t408 + (Int.tmod t414 (wrap64 (t409 + 1))))) (wrap64 (t409 - (Int.tmod t414 (wrap64 (t409 + 1)))))).bind fun bt417 => (if bt415.2 = true then (if bt417.2 = true then (laws_FnDigits.j4 kj36 l1 (bt417.1.toList != t410.toList)) else (laws_FnDigits.j4 kj36 l1 true)) else (laws_FnDigits.j4 kj36 l1 true)))))) = some r := by rw [if_pos rfl] at H; exact H
             clear H
             have H := H1
             clear H1
             replace H := Option.bind_eq_some_iff.mp H
             obtain ⟨t414, A440, H⟩ := H
             replace H : (if (wrap64 (t409 + 1)) = 0 then (none) else ((impl_ChainOf.f kj36 t407 t408 (Int.tmod t414 (wrap64 (t409 + 1)))).bind fun bt415 => ((impl_ChainOf.f kj36 bt415.1 (wrap64 (t408 + (Int.tmod t414 (wrap64 (t409 + 1))))) (wrap64 (t409 - (Int.tmod t414 (wrap64 (t409 + 1)))))).bind fun bt417 => (if bt415.2 = true then (if bt417.2 = true then (laws_FnDigits.j4 kj36 l1 (bt417.1.toList != t410.toList)) else (laws_FnDigits.j4 kj36 l1 true)) else (laws_FnDigits.j4 kj36 l1 true))))) = some r := H
             have A44 := Aside0.mk A440
             clear A440
             by_cases c45 : (wrap64 (t409 + 1)) = 0
             ·rw [if_pos c45] at H
              exact absurd H (by simp)
             ·rw [if_neg c45] at H
              have c45b0 : ((wrap64 (t409 + 1)) == 0) = false := beq_eq_false_iff_ne.mpr c45
              have c45b1 : ((wrap64 (t409 + 1)) != 0) = true := bne_iff_ne.mpr c45
              replace H := Option.bind_eq_some_iff.mp H
              obtain ⟨⟨t415, t416⟩, A460, H⟩ := H
              replace H : ((impl_ChainOf.f kj36 t415 (wrap64 (t408 + (Int.tmod t414 (wrap64 (t409 + 1))))) (wrap64 (t409 - (Int.tmod t414 (wrap64 (t409 + 1)))))).bind fun bt417 => (if t416 = true then (if bt417.2 = true then (laws_FnDigits.j4 kj36 l1 (bt417.1.toList != t410.toList)) else (laws_FnDigits.j4 kj36 l1 true)) else (laws_FnDigits.j4 kj36 l1 true))) = some r := H
              have A46 := Aside0.mk A460
              clear A460
              replace H := Option.bind_eq_some_iff.mp H
              obtain ⟨⟨t417, t418⟩, A470, H⟩ := H
              replace H : (if t416 = true then (if t418 = true then (laws_FnDigits.j4 kj36 l1 (t417.toList != t410.toList)) else (laws_FnDigits.j4 kj36 l1 true)) else (laws_FnDigits.j4 kj36 l1 true)) = some r := H
              have A47 := Aside0.mk A470
              clear A470
              have HC48 := Aside0.mk H
              clear H
              go_upto_region 23 with (first | ((with_reducible refine gate_callee (f := 28) rfl ?_); refine goesL_ (some 116) rfl rfl Try.func28 (by kernel_rfl) rfl #[.slice A0 l0.length c0] rfl (by (try simp only [List.map_toArray, List.map_cons, List.map_nil]); first | done | rfl | (simp only [List.length_drop, List.length_take]; rfl)) ?_; (with_reducible refine (laws_numberOf.calls kj36 _ _ l0 t414 _ ?side1 ?side2 A44.out).mono ?_); (case side1 => repeat (first | exact (Kd.C_below HR0.out HB.out) | (with_reducible refine Kd.C_alloc ?_ _) | (with_reducible refine Kd.C_drewN ?_ _) | (with_reducible refine Kd.C_drew ?_))); (case side2 => exact HC0.out); rintro e w' ⟨rfl, ⟨nd, rfl⟩⟩; refine ⟨_, rfl, ?_⟩) | ((with_reducible refine gate_callee (f := 26) rfl ?_); refine goesL_ (some 124) rfl rfl Try.func26 (by kernel_rfl) rfl #[.string t407, .int .i64 t408, .int .i64 (Int.tmod t414 (wrap64 (t409 + 1)))] rfl (by (try simp only [List.map_toArray, List.map_cons, List.map_nil]); first | done | rfl | (simp only [List.length_drop, List.length_take]; rfl)) ?_; (with_reducible refine (impl_ChainOf.calls kj36 t407 t408 (Int.tmod t414 (wrap64 (t409 + 1))) t415 t416 _ A46.out).mono ?_); rintro e w49 ⟨rfl, hb⟩; refine ⟨_, rfl, ?_⟩; have n0_ := Aside0.mk (below_step (by repeat (first | (with_reducible first | exact HB.out | apply below_alloc | apply pw_below_drewN | apply below_drew1) | exact HB.out)) hb); clear HB; have HB := n0_; clear n0_; (try clear hb); (try clear hb2); (try clear hk); (try clear hi)) | ((with_reducible refine gate_callee (f := 26) rfl ?_); refine goesL_ (some 135) rfl rfl Try.func26 (by kernel_rfl) rfl #[.string t415, .int .i64 (wrap64 (t408 + (Int.tmod t414 (wrap64 (t409 + 1))))), .int .i64 (wrap64 (t409 - (Int.tmod t414 (wrap64 (t409 + 1)))))] rfl (by (try simp only [List.map_toArray, List.map_cons, List.map_nil]); first | done | rfl | (simp only [List.length_drop, List.length_take]; rfl)) ?_; (with_reducible refine (impl_ChainOf.calls kj36 t415 (wrap64 (t408 + (Int.tmod t414 (wrap64 (t409 + 1))))) (wrap64 (t409 - (Int.tmod t414 (wrap64 (t409 + 1))))) t417 t418 _ A47.out).mono ?_); rintro e w50 ⟨rfl, hb⟩; refine ⟨_, rfl, ?_⟩; have n0_ := Aside0.mk (below_step (by repeat (first | (with_reducible first | exact HB.out | apply below_alloc | apply pw_below_drewN | apply below_drew1) | exact HB.out)) hb); clear HB; have HB := n0_; clear n0_; (try clear hb); (try clear hb2); (try clear hk); (try clear hi)))
              (try simp only [Act.put, List.setIfInBounds_toArray, List.set_cons_zero, List.set_cons_succ])
              go_cut [148] (fun v148 wc => ∃ (kq : Nat) (x148_47 : Bool), v148 = .bool x148_47 ∧ Aside0 (laws_FnDigits.j4 kq l1 x148_47 = some r) ∧ Aside0 (kq ≤ kj36) ∧ Aside0 (Below w.heap.size w wc))
              case first =>
               have H := HC48.out
               clear HC48
               by_cases c51 : t416 = true
               ·subst c51
                have H1 : (if t418 = true then (laws_FnDigits.j4 kj36 l1 (t417.toList != t410.toList)) else (laws_FnDigits.j4 kj36 l1 true)) = some r := by rw [if_pos rfl] at H; exact H
                clear H
                have H := H1
                clear H1
                by_cases c52 : t418 = true
                ·subst c52
                 have H1 : (laws_FnDigits.j4 kj36 l1 (t417.toList != t410.toList)) = some r := by rw [if_pos rfl] at H; exact H
                 clear H
                 have H := H1
                 clear H1
                 as_aux_lemma =>
                  have H' := Aside0.mk H
                  clear H
                  go_wp2
                  go_meet
                  case rel => exact ⟨_, ((t417.toList != t410.toList)), (by first | rfl | (simp; done) | (simp [*]; done) | (simp [bne]; done)), H', ⟨by have := HJ8.out; have := HJ19.out; have := HJ21.out; have := HJ36.out; first | omega | exact Nat.le_refl _⟩, ⟨by repeat (first | (with_reducible first | exact HB.out | apply below_alloc | apply pw_below_drewN | apply below_drew1) | exact HB.out)⟩⟩
                ·replace c52 := Bool.eq_false_iff.mpr c52
                 subst c52
                 have H1 : (laws_FnDigits.j4 kj36 l1 true) = some r := by rw [if_neg (show ¬ (false = true) by decide)] at H; exact H
                 clear H
                 have H := H1
                 clear H1
                 as_aux_lemma =>
                  have H' := Aside0.mk H
                  clear H
                  go_wp2
                  go_meet
                  case rel => exact ⟨_, (true), (by first | rfl | (simp; done) | (simp [*]; done) | (simp [bne]; done)), H', ⟨by have := HJ8.out; have := HJ19.out; have := HJ21.out; have := HJ36.out; first | omega | exact Nat.le_refl _⟩, ⟨by repeat (first | (with_reducible first | exact HB.out | apply below_alloc | apply pw_below_drewN | apply below_drew1) | exact HB.out)⟩⟩
               ·replace c51 := Bool.eq_false_iff.mpr c51
                subst c51
                have H1 : (laws_FnDigits.j4 kj36 l1 true) = some r := by rw [if_neg (show ¬ (false = true) by decide)] at H; exact H
                clear H
                have H := H1
                clear H1
                as_aux_lemma =>
                 have H' := Aside0.mk H
                 clear H
                 go_wp2
                 go_meet
                 case rel => exact ⟨_, (true), (by first | rfl | (simp; done) | (simp [*]; done) | (simp [bne]; done)), H', ⟨by have := HJ8.out; have := HJ19.out; have := HJ21.out; have := HJ36.out; first | omega | exact Nat.le_refl _⟩, ⟨by repeat (first | (with_reducible first | exact HB.out | apply below_alloc | apply pw_below_drewN | apply below_drew1) | exact HB.out)⟩⟩
              case rest =>
               clear HC48
               try clear c1
               try clear c2
               try clear p2
               try clear c3
               try clear c3b0
               try clear c4
               try clear c5
               try clear p6
               try clear c15
               try clear c15b0
               try clear c15b1
               try clear c15b2
               try clear c19
               try clear c20
               try clear c21
               try clear c22
               try clear c23
               try clear c24
               try clear c25
               try clear c26
               try clear c27
               try clear c27b0
               try clear c27b1
               try clear c27b2
               try clear c28
               try clear c41
               try clear c41b0
               try clear c41b1
               try clear c41b2
               try clear c42
               try clear c43
               try clear c45
               try clear c45b0
               try clear c45b1
               try clear c51
               try clear c52
               try clear p2
               try clear p6
               obtain ⟨kq, x148_47, rfl, HA, HJ47, HB⟩ := hcut
               cases kq with
               | zero => exact absurd HA.out (by simp [laws_FnDigits.j4])
               | succ kj47 =>
                have H := HA.out
                clear HA
                simp only [laws_FnDigits.j4] at H
                by_cases c53 : x148_47 = true
                ·subst c53
                 have H1 : (some false) = some r := by rw [if_pos rfl] at H; exact H
                 clear H
                 have H := H1
                 clear H1
                 as_aux_lemma =>
                  obtain rfl := Option.some.inj H
                  go_wp2
                  go_ret
                  exact ⟨by first | rfl | (simp [errW_none, errW_some] <;> rfl) | (simp [*, errW_none, errW_some] <;> rfl), by repeat (first | (with_reducible first | exact HB.out | apply below_alloc | apply pw_below_drewN | apply below_drew1) | exact HB.out)⟩
                ·replace c53 := Bool.eq_false_iff.mpr c53
                 subst c53
                 have H1 : ((spec_DrawIsBelow.f kj47 l1).bind fun bt419 => ((impl_IsBelow.f kj47 bt419.1 bt419.2).bind fun bt425 => ((spec_IsBelow.f kj47 bt419.1 bt419.2).bind fun bt427 => (if (bt425.2 == bt427.2) = true then (some (bt425.1 == bt427.1)) else (some false))))) = some r := by rw [if_neg (show ¬ (false = true) by decide)] at H; exact H
                 clear H
                 have H := H1
                 clear H1
                 replace H := Option.bind_eq_some_iff.mp H
                 obtain ⟨⟨t419, t420⟩, A540, H⟩ := H
                 replace H : ((impl_IsBelow.f kj47 t419 t420).bind fun bt425 => ((spec_IsBelow.f kj47 t419 t420).bind fun bt427 => (if (bt425.2 == bt427.2) = true then (some (bt425.1 == bt427.1)) else (some false)))) = some r := H
                 have A54 := Aside0.mk A540
                 clear A540
                 replace H := Option.bind_eq_some_iff.mp H
                 obtain ⟨⟨t425, t426⟩, A550, H⟩ := H
                 replace H : ((spec_IsBelow.f kj47 t419 t420).bind fun bt427 => (if (t426 == bt427.2) = true then (some (t425 == bt427.1)) else (some false))) = some r := H
                 have A55 := Aside0.mk A550
                 clear A550
                 replace H := Option.bind_eq_some_iff.mp H
                 obtain ⟨⟨t427, t428⟩, A560, H⟩ := H
                 replace H : (if (t426 == t428) = true then (some (t425 == t427)) else (some false)) = some r := H
                 have A56 := Aside0.mk A560
                 clear A560
                 by_cases c57 : (t426 == t428) = true
                 ·rw [if_pos c57] at H
                  have c57b0 : (t426 == t428) = true := c57
                  (try (have c57b1 : decide (t426 = t428) = true := by simpa using c57))
                  (try (have c57b2 : (t426 == t428) = true := by simpa using c57))
                  clear c57
                  as_aux_lemma =>
                   obtain rfl := Option.some.inj H
                   go_wp2_with (first | ((with_reducible refine gate_callee (f := 29) rfl ?_); refine goesL_ (some 151) rfl rfl Try.func29 (by kernel_rfl) rfl #[.slice A1 l1.length c1] rfl (by (try simp only [List.map_toArray, List.map_cons, List.map_nil]); first | done | rfl | (simp only [List.length_drop, List.length_take]; rfl)) ?_; (with_reducible refine (spec_DrawIsBelow.calls kj47 _ _ l1 t419 t420 _ ?side1 ?side2 A54.out).mono ?_); (case side1 => repeat (first | exact (Kd.C_below HR1.out HB.out) | (with_reducible refine Kd.C_alloc ?_ _) | (with_reducible refine Kd.C_drewN ?_ _) | (with_reducible refine Kd.C_drew ?_))); (case side2 => exact HC1.out); rintro e w58 ⟨v421, v423, rfl, ho0, ho1, hb⟩; refine ⟨_, rfl, ?_⟩; have n0_ := Aside0.mk (Kd.R_lower ho0 (below_size (by repeat (first | (with_reducible first | exact HB.out | apply below_alloc | apply pw_below_drewN | apply below_drew1) | exact HB.out)))); have n1_ := Aside0.mk (Kd.R_lower ho1 (below_size (by repeat (first | (with_reducible first | exact HB.out | apply below_alloc | apply pw_below_drewN | apply below_drew1) | exact HB.out)))); have n2_ := Aside0.mk (below_step (by repeat (first | (with_reducible first | exact HB.out | apply below_alloc | apply pw_below_drewN | apply below_drew1) | exact HB.out)) hb); clear HB; have HO422 := n0_; have HO424 := n1_; have HB := n2_; clear n0_ n1_ n2_; (try clear hb); (try clear hb2); (try clear hk); (try clear hi); (try clear ho0); (try clear ho1); obtain ⟨Ao59, co59, eo59⟩ := Kd.R_slice HO422.out; subst eo59; obtain ⟨Ao60, co60, eo60⟩ := Kd.R_slice HO424.out; subst eo60) | ((with_reducible refine gate_callee (f := 24) rfl ?_); refine goesL_ (some 157) rfl rfl Try.func24 (by kernel_rfl) rfl #[.slice Ao59 t419.length co59, .slice Ao60 t420.length co60] rfl (by (try simp only [List.map_toArray, List.map_cons, List.map_nil]); first | done | rfl | (simp only [List.length_drop, List.length_take]; rfl)) ?_; (with_reducible refine (impl_IsBelow.calls kj47 _ _ t419 _ _ t420 t425 t426 _ ?side1 ?side2 ?side3 ?side4 A55.out).mono ?_); (case side1 => repeat (first | exact (Kd.R_reads' HO422.out).2.2 | (with_reducible refine Kd.C_alloc ?_ _) | (with_reducible refine Kd.C_drewN ?_ _) | (with_reducible refine Kd.C_drew ?_))); (case side2 => exact (Kd.R_reads' HO422.out).2.1); (case side3 => repeat (first | exact (Kd.R_reads' HO424.out).2.2 | (with_reducible refine Kd.C_alloc ?_ _) | (with_reducible refine Kd.C_drewN ?_ _) | (with_reducible refine Kd.C_drew ?_))); (case side4 => exact (Kd.R_reads' HO424.out).2.1); rintro e w' ⟨rfl, ⟨nd, rfl⟩⟩; refine ⟨_, rfl, ?_⟩) | ((with_reducible refine gate_callee (f := 30) rfl ?_); refine goesL_ (some 163) rfl rfl Try.func30 (by kernel_rfl) rfl #[.slice Ao59 t419.length co59, .slice Ao60 t420.length co60] rfl (by (try simp only [List.map_toArray, List.map_cons, List.map_nil]); first | done | rfl | (simp only [List.length_drop, List.length_take]; rfl)) ?_; (with_reducible refine (spec_IsBelow.calls kj47 _ _ t419 _ _ t420 t427 t428 _ ?side1 ?side2 ?side3 ?side4 A56.out).mono ?_); (case side1 => repeat (first | exact (Kd.R_reads' HO422.out).2.2 | (with_reducible refine Kd.C_alloc ?_ _) | (with_reducible refine Kd.C_drewN ?_ _) | (with_reducible refine Kd.C_drew ?_))); (case side2 => exact (Kd.R_reads' HO422.out).2.1); (case side3 => repeat (first | exact (Kd.R_reads' HO424.out).2.2 | (with_reducible refine Kd.C_alloc ?_ _) | (with_reducible refine Kd.C_drewN ?_ _) | (with_reducible refine Kd.C_drew ?_))); (case side4 => exact (Kd.R_reads' HO424.out).2.1); rintro e w' ⟨rfl, ⟨nd, rfl⟩⟩; refine ⟨_, rfl, ?_⟩))
                   go_ret
                   exact ⟨by first | rfl | (simp [errW_none, errW_some] <;> rfl) | (simp [*, errW_none, errW_some] <;> rfl), by repeat (first | (with_reducible first | exact HB.out | apply below_alloc | apply pw_below_drewN | apply below_drew1) | exact HB.out)⟩
                 ·rw [if_neg c57] at H
                  have c57b0 : (t426 == t428) = false := by simpa using c57
                  (try (have c57b1 : decide (t426 = t428) = false := by simpa using c57))
                  (try (have c57b2 : (t426 == t428) = false := by simpa using c57))
                  (try (have c57b3 : ¬ (t426 = t428) := by simpa using c57))
                  clear c57
                  as_aux_lemma =>
                   obtain rfl := Option.some.inj H
                   go_wp2_with (first | ((with_reducible refine gate_callee (f := 29) rfl ?_); refine goesL_ (some 151) rfl rfl Try.func29 (by kernel_rfl) rfl #[.slice A1 l1.length c1] rfl (by (try simp only [List.map_toArray, List.map_cons, List.map_nil]); first | done | rfl | (simp only [List.length_drop, List.length_take]; rfl)) ?_; (with_reducible refine (spec_DrawIsBelow.calls kj47 _ _ l1 t419 t420 _ ?side1 ?side2 A54.out).mono ?_); (case side1 => repeat (first | exact (Kd.C_below HR1.out HB.out) | (with_reducible refine Kd.C_alloc ?_ _) | (with_reducible refine Kd.C_drewN ?_ _) | (with_reducible refine Kd.C_drew ?_))); (case side2 => exact HC1.out); rintro e w61 ⟨v421, v423, rfl, ho0, ho1, hb⟩; refine ⟨_, rfl, ?_⟩; have n0_ := Aside0.mk (Kd.R_lower ho0 (below_size (by repeat (first | (with_reducible first | exact HB.out | apply below_alloc | apply pw_below_drewN | apply below_drew1) | exact HB.out)))); have n1_ := Aside0.mk (Kd.R_lower ho1 (below_size (by repeat (first | (with_reducible first | exact HB.out | apply below_alloc | apply pw_below_drewN | apply below_drew1) | exact HB.out)))); have n2_ := Aside0.mk (below_step (by repeat (first | (with_reducible first | exact HB.out | apply below_alloc | apply pw_below_drewN | apply below_drew1) | exact HB.out)) hb); clear HB; have HO422 := n0_; have HO424 := n1_; have HB := n2_; clear n0_ n1_ n2_; (try clear hb); (try clear hb2); (try clear hk); (try clear hi); (try clear ho0); (try clear ho1); obtain ⟨Ao62, co62, eo62⟩ := Kd.R_slice HO422.out; subst eo62; obtain ⟨Ao63, co63, eo63⟩ := Kd.R_slice HO424.out; subst eo63) | ((with_reducible refine gate_callee (f := 24) rfl ?_); refine goesL_ (some 157) rfl rfl Try.func24 (by kernel_rfl) rfl #[.slice Ao62 t419.length co62, .slice Ao63 t420.length co63] rfl (by (try simp only [List.map_toArray, List.map_cons, List.map_nil]); first | done | rfl | (simp only [List.length_drop, List.length_take]; rfl)) ?_; (with_reducible refine (impl_IsBelow.calls kj47 _ _ t419 _ _ t420 t425 t426 _ ?side1 ?side2 ?side3 ?side4 A55.out).mono ?_); (case side1 => repeat (first | exact (Kd.R_reads' HO422.out).2.2 | (with_reducible refine Kd.C_alloc ?_ _) | (with_reducible refine Kd.C_drewN ?_ _) | (with_reducible refine Kd.C_drew ?_))); (case side2 => exact (Kd.R_reads' HO422.out).2.1); (case side3 => repeat (first | exact (Kd.R_reads' HO424.out).2.2 | (with_reducible refine Kd.C_alloc ?_ _) | (with_reducible refine Kd.C_drewN ?_ _) | (with_reducible refine Kd.C_drew ?_))); (case side4 => exact (Kd.R_reads' HO424.out).2.1); rintro e w' ⟨rfl, ⟨nd, rfl⟩⟩; refine ⟨_, rfl, ?_⟩) | ((with_reducible refine gate_callee (f := 30) rfl ?_); refine goesL_ (some 163) rfl rfl Try.func30 (by kernel_rfl) rfl #[.slice Ao62 t419.length co62, .slice Ao63 t420.length co63] rfl (by (try simp only [List.map_toArray, List.map_cons, List.map_nil]); first | done | rfl | (simp only [List.length_drop, List.length_take]; rfl)) ?_; (with_reducible refine (spec_IsBelow.calls kj47 _ _ t419 _ _ t420 t427 t428 _ ?side1 ?side2 ?side3 ?side4 A56.out).mono ?_); (case side1 => repeat (first | exact (Kd.R_reads' HO422.out).2.2 | (with_reducible refine Kd.C_alloc ?_ _) | (with_reducible refine Kd.C_drewN ?_ _) | (with_reducible refine Kd.C_drew ?_))); (case side2 => exact (Kd.R_reads' HO422.out).2.1); (case side3 => repeat (first | exact (Kd.R_reads' HO424.out).2.2 | (with_reducible refine Kd.C_alloc ?_ _) | (with_reducible refine Kd.C_drewN ?_ _) | (with_reducible refine Kd.C_drew ?_))); (case side4 => exact (Kd.R_reads' HO424.out).2.1); rintro e w' ⟨rfl, ⟨nd, rfl⟩⟩; refine ⟨_, rfl, ?_⟩))
                   go_ret
                   exact ⟨by first | rfl | (simp [errW_none, errW_some] <;> rfl) | (simp [*, errW_none, errW_some] <;> rfl), by repeat (first | (with_reducible first | exact HB.out | apply below_alloc | apply pw_below_drewN | apply below_drew1) | exact HB.out)⟩
            ·replace c43 := Bool.eq_false_iff.mpr c43
             subst c43
             have H1 : ((spec_DrawIsBelow.f kj36 l1).bind fun bt429 => ((impl_IsBelow.f kj36 bt429.1 bt429.2).bind fun bt435 => ((spec_IsBelow.f kj36 bt429.1 bt429.2).bind fun bt437 => (if (bt435.2 == bt437.2) = true then (some (bt435.1 == bt437.1)) else (some false))))) = some r := by rw [if_neg (show ¬ (false = true) by decide)] at H; exact H
             clear H
             have H := H1
             clear H1
             replace H := Option.bind_eq_some_iff.mp H
             obtain ⟨⟨t429, t430⟩, A640, H⟩ := H
             replace H : ((impl_IsBelow.f kj36 t429 t430).bind fun bt435 => ((spec_IsBelow.f kj36 t429 t430).bind fun bt437 => (if (bt435.2 == bt437.2) = true then (some (bt435.1 == bt437.1)) else (some false)))) = some r := H
             have A64 := Aside0.mk A640
             clear A640
             replace H := Option.bind_eq_some_iff.mp H
             obtain ⟨⟨t435, t436⟩, A650, H⟩ := H
             replace H : ((spec_IsBelow.f kj36 t429 t430).bind fun bt437 => (if (t436 == bt437.2) = true then (some (t435 == bt437.1)) else (some false))) = some r := H
             have A65 := Aside0.mk A650
             clear A650
             replace H := Option.bind_eq_some_iff.mp H
             obtain ⟨⟨t437, t438⟩, A660, H⟩ := H
             replace H : (if (t436 == t438) = true then (some (t435 == t437)) else (some false)) = some r := H
             have A66 := Aside0.mk A660
             clear A660
             by_cases c67 : (t436 == t438) = true
             ·rw [if_pos c67] at H
              have c67b0 : (t436 == t438) = true := c67
              (try (have c67b1 : decide (t436 = t438) = true := by simpa using c67))
              (try (have c67b2 : (t436 == t438) = true := by simpa using c67))
              clear c67
              as_aux_lemma =>
               obtain rfl := Option.some.inj H
               go_wp2_with (first | ((with_reducible refine gate_callee (f := 29) rfl ?_); refine goesL_ (some 151) rfl rfl Try.func29 (by kernel_rfl) rfl #[.slice A1 l1.length c1] rfl (by (try simp only [List.map_toArray, List.map_cons, List.map_nil]); first | done | rfl | (simp only [List.length_drop, List.length_take]; rfl)) ?_; (with_reducible refine (spec_DrawIsBelow.calls kj36 _ _ l1 t429 t430 _ ?side1 ?side2 A64.out).mono ?_); (case side1 => repeat (first | exact (Kd.C_below HR1.out HB.out) | (with_reducible refine Kd.C_alloc ?_ _) | (with_reducible refine Kd.C_drewN ?_ _) | (with_reducible refine Kd.C_drew ?_))); (case side2 => exact HC1.out); rintro e w68 ⟨v431, v433, rfl, ho0, ho1, hb⟩; refine ⟨_, rfl, ?_⟩; have n0_ := Aside0.mk (Kd.R_lower ho0 (below_size (by repeat (first | (with_reducible first | exact HB.out | apply below_alloc | apply pw_below_drewN | apply below_drew1) | exact HB.out)))); have n1_ := Aside0.mk (Kd.R_lower ho1 (below_size (by repeat (first | (with_reducible first | exact HB.out | apply below_alloc | apply pw_below_drewN | apply below_drew1) | exact HB.out)))); have n2_ := Aside0.mk (below_step (by repeat (first | (with_reducible first | exact HB.out | apply below_alloc | apply pw_below_drewN | apply below_drew1) | exact HB.out)) hb); clear HB; have HO432 := n0_; have HO434 := n1_; have HB := n2_; clear n0_ n1_ n2_; (try clear hb); (try clear hb2); (try clear hk); (try clear hi); (try clear ho0); (try clear ho1); obtain ⟨Ao69, co69, eo69⟩ := Kd.R_slice HO432.out; subst eo69; obtain ⟨Ao70, co70, eo70⟩ := Kd.R_slice HO434.out; subst eo70) | ((with_reducible refine gate_callee (f := 24) rfl ?_); refine goesL_ (some 157) rfl rfl Try.func24 (by kernel_rfl) rfl #[.slice Ao69 t429.length co69, .slice Ao70 t430.length co70] rfl (by (try simp only [List.map_toArray, List.map_cons, List.map_nil]); first | done | rfl | (simp only [List.length_drop, List.length_take]; rfl)) ?_; (with_reducible refine (impl_IsBelow.calls kj36 _ _ t429 _ _ t430 t435 t436 _ ?side1 ?side2 ?side3 ?side4 A65.out).mono ?_); (case side1 => repeat (first | exact (Kd.R_reads' HO432.out).2.2 | (with_reducible refine Kd.C_alloc ?_ _) | (with_reducible refine Kd.C_drewN ?_ _) | (with_reducible refine Kd.C_drew ?_))); (case side2 => exact (Kd.R_reads' HO432.out).2.1); (case side3 => repeat (first | exact (Kd.R_reads' HO434.out).2.2 | (with_reducible refine Kd.C_alloc ?_ _) | (with_reducible refine Kd.C_drewN ?_ _) | (with_reducible refine Kd.C_drew ?_))); (case side4 => exact (Kd.R_reads' HO434.out).2.1); rintro e w' ⟨rfl, ⟨nd, rfl⟩⟩; refine ⟨_, rfl, ?_⟩) | ((with_reducible refine gate_callee (f := 30) rfl ?_); refine goesL_ (some 163) rfl rfl Try.func30 (by kernel_rfl) rfl #[.slice Ao69 t429.length co69, .slice Ao70 t430.length co70] rfl (by (try simp only [List.map_toArray, List.map_cons, List.map_nil]); first | done | rfl | (simp only [List.length_drop, List.length_take]; rfl)) ?_; (with_reducible refine (spec_IsBelow.calls kj36 _ _ t429 _ _ t430 t437 t438 _ ?side1 ?side2 ?side3 ?side4 A66.out).mono ?_); (case side1 => repeat (first | exact (Kd.R_reads' HO432.out).2.2 | (with_reducible refine Kd.C_alloc ?_ _) | (with_reducible refine Kd.C_drewN ?_ _) | (with_reducible refine Kd.C_drew ?_))); (case side2 => exact (Kd.R_reads' HO432.out).2.1); (case side3 => repeat (first | exact (Kd.R_reads' HO434.out).2.2 | (with_reducible refine Kd.C_alloc ?_ _) | (with_reducible refine Kd.C_drewN ?_ _) | (with_reducible refine Kd.C_drew ?_))); (case side4 => exact (Kd.R_reads' HO434.out).2.1); rintro e w' ⟨rfl, ⟨nd, rfl⟩⟩; refine ⟨_, rfl, ?_⟩))
               go_ret
               exact ⟨by first | rfl | (simp [errW_none, errW_some] <;> rfl) | (simp [*, errW_none, errW_some] <;> rfl), by repeat (first | (with_reducible first | exact HB.out | apply below_alloc | apply pw_below_drewN | apply below_drew1) | exact HB.out)⟩
             ·rw [if_neg c67] at H
              have c67b0 : (t436 == t438) = false := by simpa using c67
              (try (have c67b1 : decide (t436 = t438) = false := by simpa using c67))
              (try (have c67b2 : (t436 == t438) = false := by simpa using c67))
              (try (have c67b3 : ¬ (t436 = t438) := by simpa using c67))
              clear c67
              as_aux_lemma =>
               obtain rfl := Option.some.inj H
               go_wp2_with (first | ((with_reducible refine gate_callee (f := 29) rfl ?_); refine goesL_ (some 151) rfl rfl Try.func29 (by kernel_rfl) rfl #[.slice A1 l1.length c1] rfl (by (try simp only [List.map_toArray, List.map_cons, List.map_nil]); first | done | rfl | (simp only [List.length_drop, List.length_take]; rfl)) ?_; (with_reducible refine (spec_DrawIsBelow.calls kj36 _ _ l1 t429 t430 _ ?side1 ?side2 A64.out).mono ?_); (case side1 => repeat (first | exact (Kd.C_below HR1.out HB.out) | (with_reducible refine Kd.C_alloc ?_ _) | (with_reducible refine Kd.C_drewN ?_ _) | (with_reducible refine Kd.C_drew ?_))); (case side2 => exact HC1.out); rintro e w71 ⟨v431, v433, rfl, ho0, ho1, hb⟩; refine ⟨_, rfl, ?_⟩; have n0_ := Aside0.mk (Kd.R_lower ho0 (below_size (by repeat (first | (with_reducible first | exact HB.out | apply below_alloc | apply pw_below_drewN | apply below_drew1) | exact HB.out)))); have n1_ := Aside0.mk (Kd.R_lower ho1 (below_size (by repeat (first | (with_reducible first | exact HB.out | apply below_alloc | apply pw_below_drewN | apply below_drew1) | exact HB.out)))); have n2_ := Aside0.mk (below_step (by repeat (first | (with_reducible first | exact HB.out | apply below_alloc | apply pw_below_drewN | apply below_drew1) | exact HB.out)) hb); clear HB; have HO432 := n0_; have HO434 := n1_; have HB := n2_; clear n0_ n1_ n2_; (try clear hb); (try clear hb2); (try clear hk); (try clear hi); (try clear ho0); (try clear ho1); obtain ⟨Ao72, co72, eo72⟩ := Kd.R_slice HO432.out; subst eo72; obtain ⟨Ao73, co73, eo73⟩ := Kd.R_slice HO434.out; subst eo73) | ((with_reducible refine gate_callee (f := 24) rfl ?_); refine goesL_ (some 157) rfl rfl Try.func24 (by kernel_rfl) rfl #[.slice Ao72 t429.length co72, .slice Ao73 t430.length co73] rfl (by (try simp only [List.map_toArray, List.map_cons, List.map_nil]); first | done | rfl | (simp only [List.length_drop, List.length_take]; rfl)) ?_; (with_reducible refine (impl_IsBelow.calls kj36 _ _ t429 _ _ t430 t435 t436 _ ?side1 ?side2 ?side3 ?side4 A65.out).mono ?_); (case side1 => repeat (first | exact (Kd.R_reads' HO432.out).2.2 | (with_reducible refine Kd.C_alloc ?_ _) | (with_reducible refine Kd.C_drewN ?_ _) | (with_reducible refine Kd.C_drew ?_))); (case side2 => exact (Kd.R_reads' HO432.out).2.1); (case side3 => repeat (first | exact (Kd.R_reads' HO434.out).2.2 | (with_reducible refine Kd.C_alloc ?_ _) | (with_reducible refine Kd.C_drewN ?_ _) | (with_reducible refine Kd.C_drew ?_))); (case side4 => exact (Kd.R_reads' HO434.out).2.1); rintro e w' ⟨rfl, ⟨nd, rfl⟩⟩; refine ⟨_, rfl, ?_⟩) | ((with_reducible refine gate_callee (f := 30) rfl ?_); refine goesL_ (some 163) rfl rfl Try.func30 (by kernel_rfl) rfl #[.slice Ao72 t429.length co72, .slice Ao73 t430.length co73] rfl (by (try simp only [List.map_toArray, List.map_cons, List.map_nil]); first | done | rfl | (simp only [List.length_drop, List.length_take]; rfl)) ?_; (with_reducible refine (spec_IsBelow.calls kj36 _ _ t429 _ _ t430 t437 t438 _ ?side1 ?side2 ?side3 ?side4 A66.out).mono ?_); (case side1 => repeat (first | exact (Kd.R_reads' HO432.out).2.2 | (with_reducible refine Kd.C_alloc ?_ _) | (with_reducible refine Kd.C_drewN ?_ _) | (with_reducible refine Kd.C_drew ?_))); (case side2 => exact (Kd.R_reads' HO432.out).2.1); (case side3 => repeat (first | exact (Kd.R_reads' HO434.out).2.2 | (with_reducible refine Kd.C_alloc ?_ _) | (with_reducible refine Kd.C_drewN ?_ _) | (with_reducible refine Kd.C_drew ?_))); (case side4 => exact (Kd.R_reads' HO434.out).2.1); rintro e w' ⟨rfl, ⟨nd, rfl⟩⟩; refine ⟨_, rfl, ?_⟩))
               go_ret
               exact ⟨by first | rfl | (simp [errW_none, errW_some] <;> rfl) | (simp [*, errW_none, errW_some] <;> rfl), by repeat (first | (with_reducible first | exact HB.out | apply below_alloc | apply pw_below_drewN | apply below_drew1) | exact HB.out)⟩
def laws_FnDigits.Pure : Prop := ∀ (l0 : List Int) (l1 : List Int), l0.length ≤ maxLen → l0.length * 1 ≤ 140737488351232 → (∀ x ∈ l0, (Lit.int .u8 x).wf = true) → l1.length ≤ maxLen → l1.length * 1 ≤ 140737488351232 → (∀ x ∈ l1, (Lit.int .u8 x).wf = true) → ∃ k, laws_FnDigits.f k l0 l1 = some true
theorem laws_FnDigits.walk (P : laws_FnDigits.Pure) (a0 : Option Addr) (len0 cap0 : Nat) (z0 : List Int) (a1 : Option Addr) (len1 cap1 : Nat) (z1 : List Int) (w : World) (w0 : (a0 = none ∧ len0 = 0 ∧ cap0 = 0 ∧ z0 = []) ∨ ∃ x, a0 = some x ∧ len0 ≤ cap0 ∧ cap0 ≤ maxLen ∧ z0.length = cap0 ∧ (∀ i, i < z0.length → w.cell? (x.add i) = some (.int .u8 (z0.getD i 0))) ∧ ∀ n ∈ z0, (Lit.int .u8 n).wf = true) (y0 : len0 * 1 ≤ 140737488351232) (w1 : (a1 = none ∧ len1 = 0 ∧ cap1 = 0 ∧ z1 = []) ∨ ∃ x, a1 = some x ∧ len1 ≤ cap1 ∧ cap1 ≤ maxLen ∧ z1.length = cap1 ∧ (∀ i, i < z1.length → w.cell? (x.add i) = some (.int .u8 (z1.getD i 0))) ∧ ∀ n ∈ z1, (Lit.int .u8 n).wf = true) (y1 : len1 * 1 ≤ 140737488351232) :
  Calls Try.prog 4 #[.slice a0 len0 cap0, .slice a1 len1 cap1] w fun e w' => e = .returned (.bool true) ∧ Below w.heap.size w w' := by
 obtain ⟨l0, rfl, hr0, hm0, hw0, hc0⟩ := ReadsInt.ofRowC w0
 obtain ⟨l1, rfl, hr1, hm1, hw1, hc1⟩ := ReadsInt.ofRowC w1
 obtain ⟨k, h⟩ := P l0 l1 hm0 y0 hw0 hm1 y1 hw1
 refine (laws_FnDigits.calls k _ _ l0 _ _ l1 true w (Kd.C_of_reads (d := (0 : Int)) (h1 := fun _ => rfl) hr0) hc0 (Kd.C_of_reads (d := (0 : Int)) (h1 := fun _ => rfl) hr1) hc1 h).mono ?_
 rintro e w' ⟨rfl, hd⟩
 exact ⟨rfl, hd⟩
end Go.Proofs.Ytfajabboibcgpaa.PA
end
section
namespace Go.Proofs.Ytfajabboibcgpaa.PA
open Go.RowKit Go.Proofs.YtfajabboibcgpaaW.PrintWords Go.Proofs.YtfajabboibcgpaaW.PrintLast Go.Proofs.YtfajabboibcgpaaW.PrintMore
attribute [local go_sem] max2_int min2_int max_two min_two max_three min_three max_four min_four   -- for this text's walks alone
set_option linter.unusedVariables false
set_option linter.unusedSimpArgs false
end Go.Proofs.Ytfajabboibcgpaa.PA
end
section
namespace Go.Proofs.Ytfajabboibcgpaa.PA
open Go.RowKit Go.Proofs.YtfajabboibcgpaaW.PrintWords Go.Proofs.YtfajabboibcgpaaW.PrintLast Go.Proofs.YtfajabboibcgpaaW.PrintMore
attribute [local go_sem] max2_int min2_int max_two min_two max_three min_three max_four min_four   -- for this text's walks alone
set_option linter.unusedVariables false
set_option linter.unusedSimpArgs false
end Go.Proofs.Ytfajabboibcgpaa.PA
end
section
namespace Go.Proofs.Ytfajabboibcgpaa.PA
open Go.RowKit Go.Proofs.YtfajabboibcgpaaW.PrintWords Go.Proofs.YtfajabboibcgpaaW.PrintLast Go.Proofs.YtfajabboibcgpaaW.PrintMore
attribute [local go_sem] max2_int min2_int max_two min_two max_three min_three max_four min_four   -- for this text's walks alone
set_option linter.unusedVariables false
set_option linter.unusedSimpArgs false
end Go.Proofs.Ytfajabboibcgpaa.PA
end
section
namespace Go.Proofs.Ytfajabboibcgpaa.PA
open Go.RowKit Go.Proofs.YtfajabboibcgpaaW.PrintWords Go.Proofs.YtfajabboibcgpaaW.PrintLast Go.Proofs.YtfajabboibcgpaaW.PrintMore
attribute [local go_sem] max2_int min2_int max_two min_two max_three min_three max_four min_four   -- for this text's walks alone
set_option linter.unusedVariables false
set_option linter.unusedSimpArgs false
end Go.Proofs.Ytfajabboibcgpaa.PA
end
section
namespace Go.Proofs.Ytfajabboibcgpaa.PA
open Go.RowKit Go.Proofs.YtfajabboibcgpaaW.PrintWords Go.Proofs.YtfajabboibcgpaaW.PrintLast Go.Proofs.YtfajabboibcgpaaW.PrintMore
attribute [local go_sem] max2_int min2_int max_two min_two max_three min_three max_four min_four   -- for this text's walks alone
set_option linter.unusedVariables false
set_option linter.unusedSimpArgs false
end Go.Proofs.Ytfajabboibcgpaa.PA
end
section
namespace Go.Proofs.Ytfajabboibcgpaa.PA
open Go.RowKit Go.Proofs.YtfajabboibcgpaaW.PrintWords Go.Proofs.YtfajabboibcgpaaW.PrintLast Go.Proofs.YtfajabboibcgpaaW.PrintMore
attribute [local go_sem] max2_int min2_int max_two min_two max_three min_three max_four min_four   -- for this text's walks alone
set_option linter.unusedVariables false
set_option linter.unusedSimpArgs false
end Go.Proofs.Ytfajabboibcgpaa.PA
end
section
namespace Go.Proofs.Ytfajabboibcgpaa.PA
open Go.RowKit Go.Proofs.YtfajabboibcgpaaW.PrintWords Go.Proofs.YtfajabboibcgpaaW.PrintLast Go.Proofs.YtfajabboibcgpaaW.PrintMore
attribute [local go_sem] max2_int min2_int max_two min_two max_three min_three max_four min_four   -- for this text's walks alone
set_option linter.unusedVariables false
set_option linter.unusedSimpArgs false
end Go.Proofs.Ytfajabboibcgpaa.PA
end
section
namespace Go.Proofs.Ytfajabboibcgpaa.PA
open Go.RowKit Go.Proofs.YtfajabboibcgpaaW.PrintWords Go.Proofs.YtfajabboibcgpaaW.PrintLast Go.Proofs.YtfajabboibcgpaaW.PrintMore
attribute [local go_sem] max2_int min2_int max_two min_two max_three min_three max_four min_four   -- for this text's walks alone
set_option linter.unusedVariables false
set_option linter.unusedSimpArgs false
end Go.Proofs.Ytfajabboibcgpaa.PA
end
section
namespace Go.Proofs.Ytfajabboibcgpaa.PA
open Go.RowKit Go.Proofs.YtfajabboibcgpaaW.PrintWords Go.Proofs.YtfajabboibcgpaaW.PrintLast Go.Proofs.YtfajabboibcgpaaW.PrintMore
attribute [local go_sem] max2_int min2_int max_two min_two max_three min_three max_four min_four   -- for this text's walks alone
set_option linter.unusedVariables false
set_option linter.unusedSimpArgs false
end Go.Proofs.Ytfajabboibcgpaa.PA
end
section
namespace Go.Proofs.Ytfajabboibcgpaa.PA
open Go.RowKit Go.Proofs.YtfajabboibcgpaaW.PrintWords Go.Proofs.YtfajabboibcgpaaW.PrintLast Go.Proofs.YtfajabboibcgpaaW.PrintMore
attribute [local go_sem] max2_int min2_int max_two min_two max_three min_three max_four min_four   -- for this text's walks alone
set_option linter.unusedVariables false
set_option linter.unusedSimpArgs false
end Go.Proofs.Ytfajabboibcgpaa.PA
end
section
namespace Go.Proofs.Ytfajabboibcgpaa.PA
open Go.RowKit Go.Proofs.YtfajabboibcgpaaW.PrintWords Go.Proofs.YtfajabboibcgpaaW.PrintLast Go.Proofs.YtfajabboibcgpaaW.PrintMore
attribute [local go_sem] max2_int min2_int max_two min_two max_three min_three max_four min_four   -- for this text's walks alone
set_option linter.unusedVariables false
set_option linter.unusedSimpArgs false
end Go.Proofs.Ytfajabboibcgpaa.PA
end
section
namespace Go.Proofs.Ytfajabboibcgpaa.PA
open Go.RowKit Go.Proofs.YtfajabboibcgpaaW.PrintWords Go.Proofs.YtfajabboibcgpaaW.PrintLast Go.Proofs.YtfajabboibcgpaaW.PrintMore
attribute [local go_sem] max2_int min2_int max_two min_two max_three min_three max_four min_four   -- for this text's walks alone
set_option linter.unusedVariables false
set_option linter.unusedSimpArgs false
end Go.Proofs.Ytfajabboibcgpaa.PA
end
section
namespace Go.Proofs.Ytfajabboibcgpaa.PA
open Go.RowKit Go.Proofs.YtfajabboibcgpaaW.PrintWords Go.Proofs.YtfajabboibcgpaaW.PrintLast Go.Proofs.YtfajabboibcgpaaW.PrintMore
attribute [local go_sem] max2_int min2_int max_two min_two max_three min_three max_four min_four   -- for this text's walks alone
set_option linter.unusedVariables false
set_option linter.unusedSimpArgs false
end Go.Proofs.Ytfajabboibcgpaa.PA
end
section
namespace Go.Proofs.Ytfajabboibcgpaa.PA
open Go.RowKit Go.Proofs.YtfajabboibcgpaaW.PrintWords Go.Proofs.YtfajabboibcgpaaW.PrintLast Go.Proofs.YtfajabboibcgpaaW.PrintMore
attribute [local go_sem] max2_int min2_int max_two min_two max_three min_three max_four min_four   -- for this text's walks alone
set_option linter.unusedVariables false
set_option linter.unusedSimpArgs false
end Go.Proofs.Ytfajabboibcgpaa.PA
end
section
namespace Go.Proofs.Ytfajabboibcgpaa.PA
open Go.RowKit Go.Proofs.YtfajabboibcgpaaW.PrintWords Go.Proofs.YtfajabboibcgpaaW.PrintLast Go.Proofs.YtfajabboibcgpaaW.PrintMore
attribute [local go_sem] max2_int min2_int max_two min_two max_three min_three max_four min_four   -- for this text's walks alone
set_option linter.unusedVariables false
set_option linter.unusedSimpArgs false
end Go.Proofs.Ytfajabboibcgpaa.PA
end
section
namespace Go.Proofs.Ytfajabboibcgpaa.PA
open Go.RowKit Go.Proofs.YtfajabboibcgpaaW.PrintWords Go.Proofs.YtfajabboibcgpaaW.PrintLast Go.Proofs.YtfajabboibcgpaaW.PrintMore
attribute [local go_sem] max2_int min2_int max_two min_two max_three min_three max_four min_four   -- for this text's walks alone
set_option linter.unusedVariables false
set_option linter.unusedSimpArgs false
end Go.Proofs.Ytfajabboibcgpaa.PA
end
section
namespace Go.Proofs.Ytfajabboibcgpaa.PA
open Go.RowKit Go.Proofs.YtfajabboibcgpaaW.PrintWords Go.Proofs.YtfajabboibcgpaaW.PrintLast Go.Proofs.YtfajabboibcgpaaW.PrintMore
attribute [local go_sem] max2_int min2_int max_two min_two max_three min_three max_four min_four   -- for this text's walks alone
set_option linter.unusedVariables false
set_option linter.unusedSimpArgs false
end Go.Proofs.Ytfajabboibcgpaa.PA
end
section
namespace Go.Proofs.Ytfajabboibcgpaa.PA
open Go.RowKit Go.Proofs.YtfajabboibcgpaaW.PrintWords Go.Proofs.YtfajabboibcgpaaW.PrintLast Go.Proofs.YtfajabboibcgpaaW.PrintMore
attribute [local go_sem] max2_int min2_int max_two min_two max_three min_three max_four min_four   -- for this text's walks alone
set_option linter.unusedVariables false
set_option linter.unusedSimpArgs false
end Go.Proofs.Ytfajabboibcgpaa.PA
end
section
namespace Go.Proofs.Ytfajabboibcgpaa.PA
open Go.RowKit Go.Proofs.YtfajabboibcgpaaW.PrintWords Go.Proofs.YtfajabboibcgpaaW.PrintLast Go.Proofs.YtfajabboibcgpaaW.PrintMore
attribute [local go_sem] max2_int min2_int max_two min_two max_three min_three max_four min_four   -- for this text's walks alone
set_option linter.unusedVariables false
set_option linter.unusedSimpArgs false
end Go.Proofs.Ytfajabboibcgpaa.PA
end
section
namespace Go.Proofs.Ytfajabboibcgpaa.PA
open Go.RowKit Go.Proofs.YtfajabboibcgpaaW.PrintWords Go.Proofs.YtfajabboibcgpaaW.PrintLast Go.Proofs.YtfajabboibcgpaaW.PrintMore
attribute [local go_sem] max2_int min2_int max_two min_two max_three min_three max_four min_four   -- for this text's walks alone
set_option linter.unusedVariables false
set_option linter.unusedSimpArgs false
end Go.Proofs.Ytfajabboibcgpaa.PA
end
section
namespace Go.Proofs.Ytfajabboibcgpaa.PA
open Go.RowKit Go.Proofs.YtfajabboibcgpaaW.PrintWords Go.Proofs.YtfajabboibcgpaaW.PrintLast Go.Proofs.YtfajabboibcgpaaW.PrintMore
attribute [local go_sem] max2_int min2_int max_two min_two max_three min_three max_four min_four   -- for this text's walks alone
set_option linter.unusedVariables false
set_option linter.unusedSimpArgs false
end Go.Proofs.Ytfajabboibcgpaa.PA
end
section
namespace Go.Proofs.Ytfajabboibcgpaa.PA
open Go.RowKit Go.Proofs.YtfajabboibcgpaaW.PrintWords Go.Proofs.YtfajabboibcgpaaW.PrintLast Go.Proofs.YtfajabboibcgpaaW.PrintMore
attribute [local go_sem] max2_int min2_int max_two min_two max_three min_three max_four min_four   -- for this text's walks alone
set_option linter.unusedVariables false
set_option linter.unusedSimpArgs false
end Go.Proofs.Ytfajabboibcgpaa.PA
end
section
namespace Go.Proofs.Ytfajabboibcgpaa.PB
open Go.RowKit Go.Proofs.YtfajabboibcgpaaW.PrintWords Go.Proofs.YtfajabboibcgpaaW.PrintLast Go.Proofs.YtfajabboibcgpaaW.PrintMore
set_option linter.unusedVariables false
theorem ev_pos {α : Type} {c : Prop} [Decidable c] {f g : Nat → Option α} {r : α} (hc : c) (h : Ev f r) : Ev (fun k => if c then f k else g k) r := by
  simp only [if_pos hc]; exact h
theorem ev_neg {α : Type} {c : Prop} [Decidable c] {f g : Nat → Option α} {r : α} (hc : ¬ c) (h : Ev g r) : Ev (fun k => if c then f k else g k) r := by
  simp only [if_neg hc]; exact h
theorem ev_bind {α β : Type} {g : Nat → Option α} {f : Nat → α → Option β} {a : α} {r : β} (h : Ev g a) (k : Ev (fun n => f n a) r) : Ev (fun n => (g n).bind (f n)) r := Ev.bind h k
theorem ev_const {α β : Type} {o : Option α} {f : Nat → α → Option β} {a : α} {r : β} (h : o = some a) (k : Ev (fun n => f n a) r) : Ev (fun n => o.bind (f n)) r := by
  subst h; exact k
theorem ev_of_eq {α : Type} {o : Option α} {r : α} (h : o = some r) : Ev (fun _ => o) r := by subst h; exact Ev.now r
theorem ev_eq {α : Type} {f : Nat → Option α} {r r' : α} (h : Ev f r) (e : r = r') : Ev f r' := e ▸ h
theorem w64 {x : Int} (h0 : -9223372036854775808 ≤ x) (h1 : x ≤ 9223372036854775807) : wrap64 x = x := by
  unfold wrap64; omega
theorem size_toList (s : ByteArray) : s.toList.length = s.size := by rw [ByteArray.toList_eq]; exact data_length s
theorem bt_get (s : ByteArray) (i : Nat) (h : i < s.size) : bt s (i : Int) = ((s.toList.getD i 0).toNat : Int) := by
  rw [ByteArray.toList_eq]
  unfold bt
  rw [dif_pos (by simpa using h)]
  have h' : i < s.data.toList.length := by rw [data_length]; exact h
  simp [List.getD_eq_getElem?_getD, List.getElem?_eq_getElem h']
  rfl
end Go.Proofs.Ytfajabboibcgpaa.PB
end
section
namespace Go.Proofs.Ytfajabboibcgpaa.PL
open Go.RowKit Go.Proofs.YtfajabboibcgpaaW.PrintWords Go.Proofs.YtfajabboibcgpaaW.PrintLast Go.Proofs.YtfajabboibcgpaaW.PrintMore Go.Proofs.Ytfajabboibcgpaa.PB Go.Proofs.Ytfajabboibcgpaa.PA
set_option linter.unusedVariables false
theorem rdOf_at {α : Type} (d : α) (l : List α) (i : Nat) (h : i < l.length) : rdOf d l (i : Int) = l[i] := by
  simp [rdOf, List.getD_eq_getElem?_getD, List.getElem?_eq_getElem h]
end Go.Proofs.Ytfajabboibcgpaa.PL
end
section
namespace Go.Proofs.Ytfajabboibcgpaa.PC
open Go.RowKit Go.Proofs.YtfajabboibcgpaaW.PrintWords Go.Proofs.YtfajabboibcgpaaW.PrintLast Go.Proofs.YtfajabboibcgpaaW.PrintMore Go.Proofs.Ytfajabboibcgpaa.PB Go.Proofs.Ytfajabboibcgpaa.PL Go.Proofs.Ytfajabboibcgpaa.PA
set_option linter.unusedVariables false
def Bys (c : List Int) : Prop := ∀ x ∈ c, 0 ≤ x ∧ x ≤ 255
theorem code_of (c : List Int) (h : ∀ x ∈ c, (Lit.int .u8 x).wf = true) : Bys c := by
  intro x hx
  have := h x hx
  simp [Lit.wf] at this
  have e1 : IntKind.u8.min = 0 := rfl
  have e2 : IntKind.u8.max = 255 := rfl
  rw [e1, e2] at this
  omega
theorem code_at {c : List Int} (h : Bys c) (i : Int) : 0 ≤ rd c i ∧ rd c i ≤ 255 := by
  unfold rd
  rw [List.getD_eq_getElem?_getD]
  cases e : c[i.toNat]? with
  | none => simp
  | some x => exact h x (List.mem_of_getElem? e)
theorem wrap_u64 (n : Int) : IntKind.u64.wrap n = n % 18446744073709551616 := by simp [IntKind.wrap, IntKind.bits, IntKind.signed]
theorem and255 (x : Int) (h0 : 0 ≤ x) (h1 : x < 16777216) : 0 ≤ wrap64 (Go.bits .and .u64 x 255) ∧ wrap64 (Go.bits .and .u64 x 255) ≤ 255 := by
  have h := Go.bits_mask .u64 24 (by decide) (fun n a b => by rw [wrap_u64]; omega) 8 (by decide) x h0 (by omega)
  have e : ((2 : Int) ^ 8 - 1) = 255 := by decide
  rw [e] at h
  rw [h, w64 (by omega) (by omega)]
  omega
def Drawn {α : Type} (i : Int) (K : Int) (o : Option (α × Int × Int)) (P : α → Prop) : Prop := ∃ v i' s', o = some (v, i', s') ∧ P v ∧ i ≤ i' ∧ i' ≤ i + K
theorem next_d {c : List Int} (hc : Bys c) (i s : Int) (h0 : 0 ≤ i) (h1 : i ≤ 1000000000000) : Drawn i 1 (spec_l1Cur_next.f c i s) (fun v => 0 ≤ v ∧ v ≤ 255) := by
  have e : wrap64 (i + 1) = i + 1 := w64 (by omega) (by omega)
  have hr := code_at hc i
  have hv : wrap64 (rd c i) = rd c i := w64 (by omega) (by omega)
  unfold spec_l1Cur_next.f
  rw [e]
  by_cases hi : i < (c.length : Int)
  · rw [if_pos hi, if_pos h0, if_pos (by omega)]
    exact ⟨_, _, _, rfl, by rw [hv]; exact hr, by omega, by omega⟩
  · rw [if_neg hi, if_neg (by omega)]
    refine ⟨_, _, _, rfl, and255 _ ?_ ?_, by omega, by omega⟩
    · rw [wrap_u64]; omega
    · rw [wrap_u64]; omega
theorem pick_d {c : List Int} (hc : Bys c) (i s n : Int) (h0 : 0 ≤ i) (h1 : i ≤ 100000000000) (hn : n ≤ 1000000000) : Drawn i 2 (spec_l1Cur_pick.f c i s n) (fun v => 0 ≤ v ∧ (v < n ∨ v = 0)) := by
  unfold spec_l1Cur_pick.f
  by_cases c1 : n ≤ 1
  · rw [if_pos c1]
    exact ⟨0, i, s, rfl, ⟨by omega, Or.inr rfl⟩, by omega, by omega⟩
  · rw [if_neg c1]
    obtain ⟨v, i', s', e, hv, hi1, hi2⟩ := next_d hc i s h0 (by omega)
    rw [e]
    simp only [Option.bind_some]
    by_cases c2 : n > 200
    · rw [if_pos c2]
      obtain ⟨v2, i2, s2, e2, hv2, hi3, hi4⟩ := next_d hc i' s' (by omega) (by omega)
      rw [e2]
      simp only [Option.bind_some]
      rw [if_neg (by omega), w64 (x := v * 256) (by omega) (by omega), w64 (x := v * 256 + v2) (by omega) (by omega), Int.tmod_eq_emod_of_nonneg (by omega)]
      exact ⟨_, _, _, rfl, ⟨Int.emod_nonneg _ (by omega), Or.inl (Int.emod_lt_of_pos _ (by omega))⟩, by omega, by omega⟩
    · rw [if_neg c2, if_neg (by omega), Int.tmod_eq_emod_of_nonneg (by omega)]
      exact ⟨_, _, _, rfl, ⟨Int.emod_nonneg _ (by omega), Or.inl (Int.emod_lt_of_pos _ (by omega))⟩, by omega, by omega⟩
theorem of_d {c : List Int} (hc : Bys c) (i s : Int) (l : List ByteArray) (h0 : 0 ≤ i) (h1 : i ≤ 100000000000) (hl : 1 ≤ l.length ∧ l.length ≤ 1000000000) : Drawn i 2 (spec_l1Cur_of.f c i s l) (fun v => v ∈ l) := by
  obtain ⟨v, i', s', e, hv, hi1, hi2⟩ := pick_d hc i s (l.length : Int) h0 h1 (by omega)
  unfold spec_l1Cur_of.f
  rw [e]
  simp only [Option.bind_some]
  rw [if_pos hv.1, if_pos (by omega)]
  refine ⟨_, _, _, rfl, ?_, hi1, hi2⟩
  obtain ⟨n, rfl⟩ := Int.eq_ofNat_of_zero_le hv.1
  have hn : n < l.length := by omega
  rw [rdOf_at _ _ _ hn]
  exact List.getElem_mem hn
theorem one_d {c : List Int} (hc : Bys c) (i s n : Int) (h0 : 0 ≤ i) (h1 : i ≤ 100000000000) (hn : n ≤ 1000000000) : Drawn i 2 (spec_l1Cur_one.f c i s n) (fun _ => True) := by
  obtain ⟨v, i', s', e, hv, hi1, hi2⟩ := pick_d hc i s n h0 h1 hn
  unfold spec_l1Cur_one.f
  rw [e]
  exact ⟨_, _, _, rfl, trivial, hi1, hi2⟩
theorem among_d {c : List Int} (hc : Bys c) (i s : Int) (l : List Int) (h0 : 0 ≤ i) (h1 : i ≤ 100000000000) (hl : 1 ≤ l.length ∧ l.length ≤ 1000000000) : Drawn i 2 (spec_l1Cur_among.f c i s l) (fun v => v ∈ l) := by
  obtain ⟨v, i', s', e, hv, hi1, hi2⟩ := pick_d hc i s (l.length : Int) h0 h1 (by omega)
  unfold spec_l1Cur_among.f
  rw [e]
  simp only [Option.bind_some]
  rw [if_pos hv.1, if_pos (by omega)]
  refine ⟨_, _, _, rfl, ?_, hi1, hi2⟩
  obtain ⟨n, rfl⟩ := Int.eq_ofNat_of_zero_le hv.1
  have hn : n < l.length := by omega
  unfold rd
  rw [List.getD_eq_getElem?_getD, Int.toNat_natCast, List.getElem?_eq_getElem hn]
  exact List.getElem_mem hn
theorem number_d {c : List Int} (hc : Bys c) (hl : c.length ≤ 2000000) : ∃ n, Ev (fun k => laws_numberOf.f k c) n ∧ 0 ≤ n ∧ n < 1000003 := by
  have key : ∀ (d j : Nat) (x : Int), j + d = c.length → 0 ≤ x → x < 1000003 → ∃ n, Ev (fun k => laws_numberOf.l0 k x c (c.length : Int) (j : Int)) n ∧ 0 ≤ n ∧ n < 1000003 := by
    intro d
    induction d with
    | zero =>
      intro j x hj h0 h1
      refine ⟨x, Ev.step (f := fun _ => some x) (fun k => ?_) (Ev.now _), h0, h1⟩
      simp only [laws_numberOf.l0]; rw [if_neg (by omega)]
    | succ d ih =>
      intro j x hj h0 h1
      have hr := code_at hc (j : Int)
      obtain ⟨n, hn, hb⟩ := ih (j + 1) ((31 * x + rd c (j : Int)) % 1000003) (by omega) (Int.emod_nonneg _ (by omega)) (Int.emod_lt_of_pos _ (by omega))
      refine ⟨n, Ev.step (f := fun k => laws_numberOf.l0 k ((31 * x + rd c (j : Int)) % 1000003) c (c.length : Int) ((j + 1 : Nat) : Int)) (fun k => ?_) hn, hb⟩
      simp only [laws_numberOf.l0]
      rw [if_pos (by omega), if_pos (by omega), if_pos (by omega), w64 (x := rd c (j : Int)) (by omega) (by omega), w64 (x := 31 * x) (by omega) (by omega), w64 (x := 31 * x + rd c (j : Int)) (by omega) (by omega), w64 (x := (j : Int) + 1) (by omega) (by omega), Int.tmod_eq_emod_of_nonneg (by omega)]
      rfl
  exact key c.length 0 0 (by omega) (by omega) (by omega)
end Go.Proofs.Ytfajabboibcgpaa.PC
end
section
namespace Go.Proofs.Ytfajabboibcgpaa.PD
open Go.RowKit Go.Proofs.YtfajabboibcgpaaW.PrintWords Go.Proofs.YtfajabboibcgpaaW.PrintLast Go.Proofs.YtfajabboibcgpaaW.PrintMore Go.Proofs.Ytfajabboibcgpaa.PB Go.Proofs.Ytfajabboibcgpaa.PA
set_option linter.unusedVariables false
def dstep (p : Int × Int) (c : UInt8) : Int × Int := ((p.1 + (c.toNat : Int)) % 65521, (p.2 + (p.1 + (c.toNat : Int)) % 65521) % 65521)
def dfold (p : Int × Int) (l : List UInt8) : Int × Int := l.foldl dstep p
def InP (p : Int × Int) : Prop := 0 ≤ p.1 ∧ p.1 < 65521 ∧ 0 ≤ p.2 ∧ p.2 < 65521
theorem dstep_in {p : Int × Int} {c : UInt8} : InP (dstep p c) := by
  unfold InP dstep; refine ⟨?_, ?_, ?_, ?_⟩ <;> simp only <;> omega
theorem dfold_in {p : Int × Int} (h : InP p) (l : List UInt8) : InP (dfold p l) := by
  induction l generalizing p with
  | nil => exact h
  | cons c l ih => exact ih dstep_in
def four (p : Int × Int) : ByteArray := strOfNums [p.2 / 256 % 256, p.2 % 256, p.1 / 256 % 256, p.1 % 256]
def dig (kind : Int) (s : ByteArray) : ByteArray := four (dfold (kind + 1, kind + 1) s.toList)
theorem four_size (p : Int × Int) : (four p).size = 4 := by unfold four; rw [strOfNums_size]; rfl
theorem dig_size (kind : Int) (s : ByteArray) : (dig kind s).size = 4 := four_size _
theorem drop_at (l : List UInt8) (i : Nat) (h : i < l.length) : l.drop i = l.getD i 0 :: l.drop (i + 1) := by
  rw [List.drop_eq_getElem_cons h]; simp [List.getD_eq_getElem?_getD, List.getElem?_eq_getElem h]
theorem step_arith {A B : Int} {c : Nat} (hA : 0 ≤ A ∧ A < 65521 ∧ 0 ≤ B ∧ B < 65521) (hc : c < 256) :
    Int.tmod (wrap64 (A + wrap64 (c : Int))) 65521 = (A + (c : Int)) % 65521 ∧ Int.tmod (wrap64 (B + (A + (c : Int)) % 65521)) 65521 = (B + (A + (c : Int)) % 65521) % 65521 := by
  have h1 : wrap64 (c : Int) = c := w64 (by omega) (by omega)
  have h2 : wrap64 (A + c) = A + c := w64 (by omega) (by omega)
  have h3 : wrap64 (B + (A + (c : Int)) % 65521) = B + (A + (c : Int)) % 65521 := w64 (by omega) (by omega)
  rw [h1, h2, h3, Int.tmod_eq_emod_of_nonneg (by omega), Int.tmod_eq_emod_of_nonneg (by omega)]
  exact ⟨rfl, rfl⟩
theorem feed_spec (s : ByteArray) (hs : s.size ≤ 1000000000000) (L : Int) (hL : 0 ≤ L ∧ L ≤ 1000000000000) : ∀ (d i : Nat) (A B : Int), i + d = s.size → InP (A, B) →
    Ev (fun k => spec_l1Feed.l0 k s (i : Int) A B L) ((dfold (A, B) (s.toList.drop i)).1, (dfold (A, B) (s.toList.drop i)).2, L + s.size) := by
  intro d
  induction d with
  | zero =>
    intro i A B hi hp
    refine Ev.step (f := fun _ => some (A, B, wrap64 (L + (s.size : Int)))) (fun k => ?_) ?_
    · simp only [spec_l1Feed.l0]; rw [if_neg (by omega)]
    · rw [List.drop_eq_nil_of_le (by rw [size_toList]; omega)]
      rw [w64 (by omega) (by omega)]
      exact Ev.now _
  | succ d ih =>
    intro i A B hi hp
    have hlt : i < s.size := by omega
    have hb := bt_get s i hlt
    have hc : (s.toList.getD i 0).toNat < 256 := UInt8.toNat_lt _
    have ha := step_arith (A := A) (B := B) hp hc
    refine Ev.step (f := fun k => spec_l1Feed.l0 k s ((i + 1 : Nat) : Int) (dstep (A, B) (s.toList.getD i 0)).1 (dstep (A, B) (s.toList.getD i 0)).2 L) (fun k => ?_) ?_
    · simp only [spec_l1Feed.l0]; rw [if_pos (by omega), if_pos (by omega), hb, ha.1, ha.2, w64 (x := (i : Int) + 1) (by omega) (by omega)]
      simp only [dstep]
      congr 1
    · rw [drop_at _ _ (by rw [size_toList]; exact hlt)]
      exact ih (i + 1) _ _ (by omega) dstep_in
theorem feed_impl (s : ByteArray) (hs : s.size ≤ 1000000000000) (L : Int) (hL : 0 ≤ L ∧ L ≤ 1000000000000) : ∀ (d i : Nat) (A B : Int), i + d = s.size → InP (A, B) →
    Ev (fun k => impl_Mix_feed.l0 k s (s.size : Int) (i : Int) A B L) ((dfold (A, B) (s.toList.drop i)).1, (dfold (A, B) (s.toList.drop i)).2, L + s.size) := by
  intro d
  induction d with
  | zero =>
    intro i A B hi hp
    refine Ev.step (f := fun _ => some (A, B, wrap64 (L + (s.size : Int)))) (fun k => ?_) ?_
    · simp only [impl_Mix_feed.l0]; rw [if_neg (by omega)]
    · rw [List.drop_eq_nil_of_le (by rw [size_toList]; omega)]
      rw [w64 (by omega) (by omega)]
      exact Ev.now _
  | succ d ih =>
    intro i A B hi hp
    have hlt : i < s.size := by omega
    have hb := bt_get s i hlt
    have hc : (s.toList.getD i 0).toNat < 256 := UInt8.toNat_lt _
    have ha := step_arith (A := A) (B := B) hp hc
    refine Ev.step (f := fun k => impl_Mix_feed.l0 k s (s.size : Int) ((i + 1 : Nat) : Int) (dstep (A, B) (s.toList.getD i 0)).1 (dstep (A, B) (s.toList.getD i 0)).2 L) (fun k => ?_) ?_
    · simp only [impl_Mix_feed.l0]; rw [if_pos (by omega), if_pos (by omega), if_pos (by omega), hb, ha.1, ha.2, w64 (x := (i : Int) + 1) (by omega) (by omega)]
      simp only [dstep]
      congr 1
    · rw [drop_at _ _ (by rw [size_toList]; exact hlt)]
      exact ih (i + 1) _ _ (by omega) dstep_in
def Kd_ (c : Int) : Prop := 97 ≤ c ∧ c ≤ 122
theorem digS (kind : Int) (hk : Kd_ kind) (s : ByteArray) (hs : s.size ≤ 1000000000000) : Ev (fun k => spec_l1Digest.f k kind s) (dig kind s) := by
  obtain ⟨h0, h1⟩ := hk
  have e1 : spec_NewMix.f kind = some (kind + 1, kind + 1, 0, true) := by
    unfold spec_NewMix.f spec_l1Kind.f
    rw [if_pos (by omega)]
    simp only [Option.bind_some, decide_eq_true h1, if_true]
    rw [w64 (x := kind) (by omega) (by omega), w64 (by omega) (by omega), Int.add_comm]
  have hp : InP (kind + 1, kind + 1) := by unfold InP; refine ⟨?_, ?_, ?_, ?_⟩ <;> simp only <;> omega
  obtain ⟨K, h⟩ := feed_spec s hs 0 (by omega) s.size 0 (kind + 1) (kind + 1) (by omega) hp
  refine ⟨K, fun k hk => ?_⟩
  have h' := h k hk
  dsimp only at h'
  rw [show ((0 : Nat) : Int) = 0 from rfl] at h'
  unfold spec_l1Digest.f spec_l1Feed.f spec_l1End.f
  simp only [e1, Option.bind_some]
  rw [h']
  simp only [Option.bind_some, List.drop_zero]
  rfl
theorem digI (kind : Int) (hk : Kd_ kind) (s : ByteArray) (hs : s.size ≤ 1000000000000) : Ev (fun k => impl_digest.f k kind s) (dig kind s) := by
  obtain ⟨h0, h1⟩ := hk
  have e1 : impl_newMix.f kind = some (kind + 1, kind + 1, 0) := by
    unfold impl_newMix.f
    rw [w64 (x := kind) (by omega) (by omega), w64 (by omega) (by omega)]
  have hp : InP (kind + 1, kind + 1) := by unfold InP; refine ⟨?_, ?_, ?_, ?_⟩ <;> simp only <;> omega
  obtain ⟨K, h⟩ := feed_impl s hs 0 (by omega) s.size 0 (kind + 1) (kind + 1) (by omega) hp
  refine ⟨K, fun k hk => ?_⟩
  have h' := h k hk
  dsimp only at h'
  rw [show ((0 : Nat) : Int) = 0 from rfl] at h'
  have hq := dfold_in hp s.toList
  unfold impl_digest.f impl_Mix_feed.f impl_Mix_end.f
  simp only [e1, Option.bind_some]
  rw [h']
  simp only [Option.bind_some, List.drop_zero]
  unfold dig four
  generalize dfold (kind + 1, kind + 1) s.toList = p at hq ⊢
  obtain ⟨q0, q1, q2, q3⟩ := hq
  rw [Int.tdiv_eq_ediv_of_nonneg q2, Int.tdiv_eq_ediv_of_nonneg q0, Int.tmod_eq_emod_of_nonneg q2, Int.tmod_eq_emod_of_nonneg q0, w64 (x := p.2 / 256) (by omega) (by omega), w64 (x := p.1 / 256) (by omega) (by omega)]
  rw [Int.emod_emod_of_dvd p.2 (Int.dvd_refl _), Int.emod_emod_of_dvd p.1 (Int.dvd_refl _)]
def one (n : Int) : ByteArray := strOfNums [n % 256]
theorem one_size (n : Int) : (one n).size = 1 := by unfold one; rw [strOfNums_size]; rfl
theorem oneI (n : Int) : impl_oneByte.f n = some (one n) := rfl
end Go.Proofs.Ytfajabboibcgpaa.PD
end
section
namespace Go.Proofs.Ytfajabboibcgpaa.PK
open Go.RowKit Go.Proofs.YtfajabboibcgpaaW.PrintWords Go.Proofs.YtfajabboibcgpaaW.PrintLast Go.Proofs.YtfajabboibcgpaaW.PrintMore Go.Proofs.Ytfajabboibcgpaa.PB Go.Proofs.Ytfajabboibcgpaa.PD Go.Proofs.Ytfajabboibcgpaa.PA
set_option linter.unusedVariables false
def chainM (s : ByteArray) (i : Nat) : Nat → ByteArray
  | 0 => s
  | n + 1 => chainM (dig 99 (one (i : Int) ++ s)) (i + 1) n
theorem chainM_size (s : ByteArray) (h : s.size = 4) (n : Nat) : ∀ i, (chainM s i n).size = 4 := by
  induction n generalizing s with
  | zero => intro i; exact h
  | succ n ih => intro i; exact ih _ (dig_size _ _) _
theorem kc : Kd_ 99 := ⟨by decide, by decide⟩
theorem app_size (a b : ByteArray) : (a ++ b).size = a.size + b.size := ByteArray.size_append
theorem chainS0 (a b : Nat) (ha : a + b ≤ 1000) : ∀ (n i : Nat) (s : ByteArray), s.size ≤ 1000000 → i + n = a + b → Ev (fun k => spec_l2Chain.l0 k s (a : Int) (b : Int) (i : Int)) (chainM s i n) := by
  intro n
  induction n with
  | zero =>
    intro i s hs hi
    refine Ev.step (f := fun _ => some s) (fun k => ?_) (Ev.now _)
    simp only [spec_l2Chain.l0]
    rw [w64 (by omega) (by omega), if_neg (by omega)]
  | succ n ih =>
    intro i s hs hi
    refine Ev.step (f := fun k => (spec_l1Digest.f k 99 (one (i : Int) ++ s)).bind fun t => spec_l2Chain.l0 k t (a : Int) (b : Int) ((i + 1 : Nat) : Int)) (fun k => ?_) ?_
    · simp only [spec_l2Chain.l0]
      rw [w64 (x := (a : Int) + b) (by omega) (by omega), if_pos (by omega)]
      simp only [Option.bind_some]
      rw [if_pos (by rw [strOfNums_size]; simp only [List.length_cons, List.length_nil]; omega), w64 (x := (i : Int) + 1) (by omega) (by omega)]
      rfl
    · exact ev_bind (digS 99 kc _ (by rw [app_size, one_size]; omega)) (ih (i + 1) _ (by rw [dig_size]; omega) (by omega))
theorem chainS (s : ByteArray) (a b : Nat) (ha : a + b ≤ 1000) (hs : s.size ≤ 1000000) : Ev (fun k => spec_l2Chain.f k s (a : Int) (b : Int)) (chainM s a b) :=
  chainS0 a b ha b a s hs rfl
theorem chainI0 (a b : Nat) (ha : a + b ≤ 1000) : ∀ (n i : Nat) (s : ByteArray), s.size ≤ 1000000 → i + n = a + b → Ev (fun k => impl_chain.l0 k s (a : Int) (b : Int) (i : Int)) (chainM s i n) := by
  intro n
  induction n with
  | zero =>
    intro i s hs hi
    refine Ev.step (f := fun _ => some s) (fun k => ?_) (Ev.now _)
    simp only [impl_chain.l0]
    rw [w64 (by omega) (by omega), if_neg (by omega)]
  | succ n ih =>
    intro i s hs hi
    refine Ev.step (f := fun k => (impl_digest.f k 99 (one (i : Int) ++ s)).bind fun t => impl_chain.l0 k t (a : Int) (b : Int) ((i + 1 : Nat) : Int)) (fun k => ?_) ?_
    · simp only [impl_chain.l0]
      rw [w64 (x := (a : Int) + b) (by omega) (by omega), if_pos (by omega), oneI]
      simp only [Option.bind_some]
      rw [if_pos (by rw [one_size]; omega), w64 (x := (i : Int) + 1) (by omega) (by omega)]
      rfl
    · exact ev_bind (digI 99 kc _ (by rw [app_size, one_size]; omega)) (ih (i + 1) _ (by rw [dig_size]; omega) (by omega))
theorem chainI (s : ByteArray) (a b : Nat) (ha : a + b ≤ 1000) (hs : s.size ≤ 1000000) : Ev (fun k => impl_chain.f k s (a : Int) (b : Int)) (chainM s a b) :=
  chainI0 a b ha b a s hs rfl
def nibs : List UInt8 → List Int
  | [] => []
  | c :: l => (c.toNat : Int) / 16 :: (c.toNat : Int) % 16 :: nibs l
def sm : List Int → Int
  | [] => 0
  | n :: l => (15 - n) + sm l
theorem nibs_length (l : List UInt8) : (nibs l).length = 2 * l.length := by
  induction l with
  | nil => rfl
  | cons c l ih => simp only [nibs, List.length_cons, ih]; omega
theorem nibs_in (l : List UInt8) : ∀ n ∈ nibs l, 0 ≤ n ∧ n ≤ 15 := by
  induction l with
  | nil => intro n h; cases h
  | cons c l ih =>
    have hc : c.toNat < 256 := UInt8.toNat_lt _
    intro n h
    simp only [nibs, List.mem_cons] at h
    rcases h with rfl | rfl | h
    · omega
    · omega
    · exact ih n h
theorem sm_nibs (l : List UInt8) : 0 ≤ sm (nibs l) ∧ sm (nibs l) ≤ 30 * l.length := by
  induction l with
  | nil => exact ⟨by decide, by decide⟩
  | cons c l ih =>
    have hc : c.toNat < 256 := UInt8.toNat_lt _
    simp only [nibs, sm, List.length_cons]
    omega
def checksM (S : Int) : List Int := [S / 256 % 16, S / 16 % 16, S % 16]
def digitsM (s : ByteArray) : List Int := nibs (dig 109 s).toList ++ checksM (sm (nibs (dig 109 s).toList))
theorem digitsM_length (s : ByteArray) : (digitsM s).length = 11 := by
  unfold digitsM
  rw [List.length_append, nibs_length, size_toList, dig_size]
  rfl
theorem digitsM_in (s : ByteArray) : ∀ n ∈ digitsM s, 0 ≤ n ∧ n ≤ 15 := by
  intro n h
  unfold digitsM at h
  rcases List.mem_append.mp h with h | h
  · exact nibs_in _ n h
  · unfold checksM at h
    simp only [List.mem_cons, List.not_mem_nil, or_false] at h
    rcases h with rfl | rfl | rfl <;> omega
theorem rd_at (l : List Int) (i : Nat) (h : i < l.length) : rd l (i : Int) = l[i] := by
  simp [rd, List.getD_eq_getElem?_getD, List.getElem?_eq_getElem h]
theorem drop_cons {α : Type} (l : List α) (i : Nat) (h : i < l.length) : l.drop i = l[i] :: l.drop (i + 1) := List.drop_eq_getElem_cons h
theorem sumS (out : List Int) (hin : ∀ n ∈ out, 0 ≤ n ∧ n ≤ 15) (hl : out.length ≤ 100) : ∀ (d i : Nat) (S : Int), i + d = out.length → 0 ≤ S → S ≤ 15 * i → Ev (fun k => spec_l2Digits.l1 k out S out (out.length : Int) (i : Int)) (out ++ checksM (S + sm (out.drop i))) := by
  intro d
  induction d with
  | zero =>
    intro i S hi h0 h1
    refine Ev.step (f := fun _ => some (out ++ checksM S)) (fun k => ?_) ?_
    · simp only [spec_l2Digits.l1]
      rw [if_neg (by omega)]
      simp only [Option.bind_some]
      rw [if_pos (by simp only [List.length_cons, List.length_nil]; omega)]
      have hb : ∀ x : Int, 0 ≤ x → x < 4294967296 → Go.bits .and .i64 x 15 = x % 16 := fun x hx0 hx1 => bits_mask .i64 63 (by decide) (fun n hn0 hn1 => by rw [i64_w]; exact w64 (by omega) (by omega)) 4 (by decide) x hx0 (by omega)
      rw [hb _ (by omega) (by omega), hb _ (by omega) (by omega), hb _ (by omega) (by omega)]
      rfl
    · rw [List.drop_eq_nil_of_le (by omega)]
      simp only [sm, Int.add_zero]
      exact Ev.now _
  | succ d ih =>
    intro i S hi h0 h1
    have hlt : i < out.length := by omega
    have hr := rd_at out i hlt
    have hb := hin _ (List.getElem_mem hlt)
    refine Ev.step (f := fun k => spec_l2Digits.l1 k out (S + (15 - out[i])) out (out.length : Int) ((i + 1 : Nat) : Int)) (fun k => ?_) ?_
    · simp only [spec_l2Digits.l1]
      rw [if_pos (by omega), if_pos (by omega), if_pos (by omega), hr, w64 (x := 15 - out[i]) (by omega) (by omega), w64 (x := S + (15 - out[i])) (by omega) (by omega), w64 (x := (i : Int) + 1) (by omega) (by omega)]
      rfl
    · have := ih (i + 1) (S + (15 - out[i])) (by omega) (by omega) (by omega)
      rw [drop_cons out i hlt]
      simp only [sm]
      rw [← Int.add_assoc]
      exact this
theorem nibsS (t : ByteArray) (ht : t.size = 4) : ∀ (d i : Nat) (out : List Int), i + d = t.size → out = nibs (t.toList.take i) → Ev (fun k => spec_l2Digits.l0 k out t 0 (i : Int)) (nibs t.toList ++ checksM (sm (nibs t.toList))) := by
  have hlen : t.toList.length = 4 := by rw [size_toList]; exact ht
  intro d
  induction d with
  | zero =>
    intro i out hi ho
    have ho' : out = nibs t.toList := by rw [ho, List.take_of_length_le (by omega)]
    subst ho'
    refine Ev.step (f := fun k => spec_l2Digits.l1 k (nibs t.toList) 0 (nibs t.toList) ((nibs t.toList).length : Int) ((0 : Nat) : Int)) (fun k => ?_) ?_
    · simp only [spec_l2Digits.l0]
      rw [if_neg (by omega)]
      rfl
    · have := sumS (nibs t.toList) (nibs_in _) (by rw [nibs_length]; omega) (nibs t.toList).length 0 0 (by omega) (by omega) (by omega)
      simpa using this
  | succ d ih =>
    intro i out hi ho
    have hlt : i < t.size := by omega
    have hb := bt_get t i hlt
    have hlt' : i < t.toList.length := by omega
    have hg : t.toList.getD i 0 = t.toList[i] := by simp [List.getD_eq_getElem?_getD, List.getElem?_eq_getElem hlt']
    rw [hg] at hb
    have hc : (t.toList[i]).toNat < 256 := UInt8.toNat_lt _
    have hol : out.length = 2 * i := by rw [ho, nibs_length, List.length_take]; omega
    refine Ev.step (f := fun k => spec_l2Digits.l0 k (out ++ [((t.toList[i]).toNat : Int) / 16, ((t.toList[i]).toNat : Int) % 16]) t 0 ((i + 1 : Nat) : Int)) (fun k => ?_) ?_
    · simp only [spec_l2Digits.l0]
      rw [if_pos (by omega), if_pos (by omega), hb, u8_and15 (x := ((t.toList[i]).toNat : Int)) (by omega) (by omega), w64 (x := ((t.toList[i]).toNat : Int) / 16) (by omega) (by omega), w64 (x := ((t.toList[i]).toNat : Int) % 16) (by omega) (by omega), w64 (x := (i : Int) + 1) (by omega) (by omega)]
      simp only [Option.bind_some]
      rw [if_pos (by simp only [List.length_cons, List.length_nil]; omega)]
      rfl
    · refine ih (i + 1) _ (by omega) ?_
      rw [ho, List.take_succ_eq_append_getElem hlt']
      generalize List.take i t.toList = l
      induction l with
      | nil => rfl
      | cons c l ih2 => simp only [nibs, List.cons_append, ih2]
theorem kmm : Kd_ 109 := ⟨by decide, by decide⟩
theorem digitsS (s : ByteArray) (hs : s.size ≤ 1000000) : Ev (fun k => spec_l2Digits.f k s) (digitsM s) := by
  refine ev_bind (f := fun k t => spec_l2Digits.l0 k [] t 0 0) (digS 109 kmm s (by omega)) ?_
  exact nibsS (dig 109 s) (dig_size _ _) (dig 109 s).size 0 [] (by omega) rfl
theorem rd_bytes (t : ByteArray) (i : Nat) (h : i < t.toList.length) : rd (bytesOf t) (i : Int) = ((t.toList[i]).toNat : Int) := by
  rw [rd_bytesOf, bt_get t i (by rw [size_toList] at h; exact h)]
  simp [List.getD_eq_getElem?_getD, List.getElem?_eq_getElem h]
theorem bytesOf_len (t : ByteArray) : (bytesOf t).length = t.toList.length := by rw [bytesOf_length, size_toList]
theorem nibs_app (l : List UInt8) (c : UInt8) : nibs (l ++ [c]) = nibs l ++ [(c.toNat : Int) / 16, (c.toNat : Int) % 16] := by
  induction l with
  | nil => rfl
  | cons d l ih => simp only [nibs, List.cons_append, ih]
theorem sm_app (a b : List Int) : sm (a ++ b) = sm a + sm b := by
  induction a with
  | nil => simp [sm]
  | cons n a ih => simp only [sm, List.cons_append, ih]; omega
theorem nibsI (t : ByteArray) (ht : t.size = 4) : ∀ (d i : Nat) (out : List Int) (S : Int), i + d = t.toList.length → out = nibs (t.toList.take i) → S = sm out → Ev (fun k => impl_digits.l0 k out S (bytesOf t) ((bytesOf t).length : Int) (i : Int)) (nibs t.toList ++ checksM (sm (nibs t.toList))) := by
  have hlen : t.toList.length = 4 := by rw [size_toList]; exact ht
  intro d
  induction d with
  | zero =>
    intro i out S hi ho hS
    have ho' : out = nibs t.toList := by rw [ho, List.take_of_length_le (by omega)]
    subst ho'
    have hb := sm_nibs t.toList
    rw [hlen] at hb
    refine Ev.step (f := fun k => some (nibs t.toList ++ checksM (sm (nibs t.toList)))) (fun k => ?_) (Ev.now _)
    simp only [impl_digits.l0]
    rw [if_neg (by rw [bytesOf_len]; omega)]
    simp only [Option.bind_some]
    rw [if_pos (by rw [nibs_length]; simp only [List.length_cons, List.length_nil]; omega)]
    rw [hS, Int.tdiv_eq_ediv_of_nonneg hb.1, Int.tdiv_eq_ediv_of_nonneg hb.1, w64 (x := sm (nibs t.toList) / 256) (by omega) (by omega), w64 (x := sm (nibs t.toList) / 16) (by omega) (by omega), Int.tmod_eq_emod_of_nonneg hb.1, Int.tmod_eq_emod_of_nonneg (by omega)]
    unfold checksM
    rw [show sm (nibs t.toList) / 256 % 16 = sm (nibs t.toList) / 256 from by omega]
  | succ d ih =>
    intro i out S hi ho hS
    have hlt' : i < t.toList.length := by omega
    have hb := rd_bytes t i hlt'
    have hc : (t.toList[i]).toNat < 256 := UInt8.toNat_lt _
    have hol : out.length = 2 * i := by rw [ho, nibs_length, List.length_take]; omega
    have hSb : 0 ≤ S ∧ S ≤ 30 * i := by
      have := sm_nibs (t.toList.take i)
      rw [← ho, ← hS, List.length_take] at this
      omega
    refine Ev.step (f := fun k => impl_digits.l0 k (out ++ [((t.toList[i]).toNat : Int) / 16, ((t.toList[i]).toNat : Int) % 16]) (S + (30 - ((t.toList[i]).toNat : Int) / 16 - ((t.toList[i]).toNat : Int) % 16)) (bytesOf t) ((bytesOf t).length : Int) ((i + 1 : Nat) : Int)) (fun k => ?_) ?_
    · simp only [impl_digits.l0]
      have hbl := bytesOf_len t
      rw [if_pos (by omega), if_pos (by omega), if_pos (by omega), hb, Int.tdiv_eq_ediv_of_nonneg (by omega), Int.tmod_eq_emod_of_nonneg (by omega), w64 (x := ((t.toList[i]).toNat : Int) % 16) (by omega) (by omega), w64 (x := (i : Int) + 1) (by omega) (by omega)]
      rw [show ((t.toList[i]).toNat : Int) / 16 % 256 = ((t.toList[i]).toNat : Int) / 16 from by omega]
      rw [w64 (x := 30 - ((t.toList[i]).toNat : Int) / 16 - ((t.toList[i]).toNat : Int) % 16) (by omega) (by omega), w64 (x := S + (30 - ((t.toList[i]).toNat : Int) / 16 - ((t.toList[i]).toNat : Int) % 16)) (by omega) (by omega)]
      simp only [Option.bind_some]
      rw [if_pos (by simp only [List.length_cons, List.length_nil]; omega)]
      rfl
    · refine ih (i + 1) _ _ (by omega) ?_ ?_
      · rw [ho, List.take_succ_eq_append_getElem hlt', nibs_app]
      · rw [hS, sm_app]; simp only [sm]; omega
theorem digitsI (s : ByteArray) (hs : s.size ≤ 1000000) : Ev (fun k => impl_digits.f k s) (digitsM s) := by
  refine ev_bind (f := fun k t178 => if t178.size ≤ 9223372036854775807 then ((some (bytesOf t178 : List Int)).bind fun y179 => (impl_digits.l0 k ([] : List Int) 0 y179 (y179.length : Int) 0)) else (none)) (digI 109 kmm s (by omega)) ?_
  refine ev_pos (by rw [dig_size]; omega) ?_
  exact nibsI (dig 109 s) (dig_size _ _) (dig 109 s).toList.length 0 [] 0 (by omega) rfl rfl
end Go.Proofs.Ytfajabboibcgpaa.PK
end
section
namespace Go.Proofs.Ytfajabboibcgpaa.PS
open Go.RowKit Go.Proofs.YtfajabboibcgpaaW.PrintWords Go.Proofs.YtfajabboibcgpaaW.PrintLast Go.Proofs.YtfajabboibcgpaaW.PrintMore Go.Proofs.Ytfajabboibcgpaa.PB Go.Proofs.Ytfajabboibcgpaa.PD Go.Proofs.Ytfajabboibcgpaa.PK Go.Proofs.Ytfajabboibcgpaa.PL Go.Proofs.Ytfajabboibcgpaa.PA
set_option linter.unusedVariables false
end Go.Proofs.Ytfajabboibcgpaa.PS
end
section
namespace Go.Proofs.Ytfajabboibcgpaa.PT
open Go.RowKit Go.Proofs.YtfajabboibcgpaaW.PrintWords Go.Proofs.YtfajabboibcgpaaW.PrintLast Go.Proofs.YtfajabboibcgpaaW.PrintMore Go.Proofs.Ytfajabboibcgpaa.PB Go.Proofs.Ytfajabboibcgpaa.PD Go.Proofs.Ytfajabboibcgpaa.PK Go.Proofs.Ytfajabboibcgpaa.PL Go.Proofs.Ytfajabboibcgpaa.PS Go.Proofs.Ytfajabboibcgpaa.PA
set_option linter.unusedVariables false
theorem inS (a b c : Int) : spec_l1In.f a b c = some (decide (b ≤ a ∧ a ≤ c)) := by
  unfold spec_l1In.f
  by_cases h : a ≥ b
  · rw [if_pos h]; simp [show b ≤ a from h]
  · rw [if_neg h]; simp [show ¬ b ≤ a from h]
theorem inI (a b c : Int) : impl_within.f a b c = some (decide (b ≤ a ∧ a ≤ c)) := by
  unfold impl_within.f
  by_cases h : a ≥ b
  · rw [if_pos h]; simp [show b ≤ a from h]
  · rw [if_neg h]; simp [show ¬ b ≤ a from h]
theorem longS (a : ByteArray) : spec_l2Long.f a = some (decide ((a.size : Int) ≤ 200)) := rfl
end Go.Proofs.Ytfajabboibcgpaa.PT
end
section
namespace Go.Proofs.Ytfajabboibcgpaa.PU
open Go.RowKit Go.Proofs.YtfajabboibcgpaaW.PrintWords Go.Proofs.YtfajabboibcgpaaW.PrintLast Go.Proofs.YtfajabboibcgpaaW.PrintMore Go.Proofs.Ytfajabboibcgpaa.PB Go.Proofs.Ytfajabboibcgpaa.PD Go.Proofs.Ytfajabboibcgpaa.PK Go.Proofs.Ytfajabboibcgpaa.PL Go.Proofs.Ytfajabboibcgpaa.PS Go.Proofs.Ytfajabboibcgpaa.PT Go.Proofs.Ytfajabboibcgpaa.PA
set_option linter.unusedVariables false
theorem idx_any {α : Type} (l : List α) (rf : List α → Int → α) (hrf : ∀ i (h : i < l.length), rf l (i : Int) = l[i]) (L0 : Nat → List α → Int → Int → Option Int) (cl : Nat → α → Option Bool) (p : α → Bool)
    (hstep : ∀ k n i, L0 (k + 1) l n i = if i < n then (if 0 ≤ i then (if i < (l.length : Int) then ((cl k (rf l i)).bind fun t => if t = true then some i else L0 k l n (wrap64 (i + 1))) else none) else none) else some (-1))
    (hp : ∀ x ∈ l, Ev (fun k => cl k x) (p x)) (hl : l.length ≤ 4000000000000000000) : ∃ r, Ev (fun k => L0 k l (l.length : Int) 0) r ∧ decide (r ≥ 0) = l.any p := by
  have key : ∀ (d i : Nat), i + d = l.length → ∃ r, Ev (fun k => L0 k l (l.length : Int) (i : Int)) r ∧ decide (r ≥ 0) = (l.drop i).any p := by
    intro d
    induction d with
    | zero =>
      intro i hi
      refine ⟨-1, Ev.step (f := fun _ => some (-1)) (fun k => ?_) (Ev.now _), ?_⟩
      · rw [hstep, if_neg (by omega)]
      · rw [List.drop_eq_nil_of_le (by omega)]; rfl
    | succ d ih =>
      intro i hi
      have hlt : i < l.length := by omega
      have hpx := hp _ (List.getElem_mem hlt)
      rw [List.drop_eq_getElem_cons hlt, List.any_cons]
      have st : ∀ k, L0 (k + 1) l (l.length : Int) (i : Int) = (cl k l[i]).bind fun t => if t = true then some (i : Int) else L0 k l (l.length : Int) ((i + 1 : Nat) : Int) := by
        intro k
        rw [hstep, if_pos (by omega), if_pos (by omega), if_pos (by omega), hrf i hlt, w64 (x := (i : Int) + 1) (by omega) (by omega)]
        rfl
      cases hb : p l[i] with
      | true =>
        rw [hb] at hpx
        refine ⟨(i : Int), Ev.step (f := fun k => (cl k l[i]).bind fun t => if t = true then some (i : Int) else L0 k l (l.length : Int) ((i + 1 : Nat) : Int)) st (ev_bind hpx (ev_pos rfl (Ev.now _))), ?_⟩
        simp only [Bool.true_or]
        exact decide_eq_true (by omega)
      | false =>
        rw [hb] at hpx
        obtain ⟨r, hr, e⟩ := ih (i + 1) (by omega)
        refine ⟨r, Ev.step (f := fun k => (cl k l[i]).bind fun t => if t = true then some (i : Int) else L0 k l (l.length : Int) ((i + 1 : Nat) : Int)) st (ev_bind hpx (ev_neg (by simp) hr)), ?_⟩
        rw [Bool.false_or]; exact e
  obtain ⟨r, hr, e⟩ := key l.length 0 (by omega)
  exact ⟨r, hr, by rw [e, List.drop_zero]⟩
theorem isDigI (s : ByteArray) : impl_isDigest.f s = some (decide (s.size = 4)) := by
  unfold impl_isDigest.f
  refine congrArg some ?_
  by_cases h : s.size = 4
  · rw [decide_eq_true h, h]; rfl
  · rw [decide_eq_false h]; exact beq_eq_false_iff_ne.mpr (by omega)
end Go.Proofs.Ytfajabboibcgpaa.PU
end
section
namespace Go.Proofs.Ytfajabboibcgpaa.PG
open Go.RowKit Go.Proofs.YtfajabboibcgpaaW.PrintWords Go.Proofs.YtfajabboibcgpaaW.PrintLast Go.Proofs.YtfajabboibcgpaaW.PrintMore Go.Proofs.Ytfajabboibcgpaa.PB Go.Proofs.Ytfajabboibcgpaa.PL
set_option linter.unusedVariables false
theorem loop_up {β : Type} {r : β} (n : Nat) (S : Nat → Nat → Option β) (hend : Ev (S n) r) (hround : ∀ i, i < n → Ev (S (i + 1)) r → Ev (S i) r) : Ev (S 0) r := by
  have key : ∀ d i, i + d = n → Ev (S i) r := by
    intro d
    induction d with
    | zero => intro i hi; rw [show i = n by omega]; exact hend
    | succ d ih => intro i hi; exact hround i (by omega) (ih (i + 1) (by omega))
  exact key n 0 (by omega)
end Go.Proofs.Ytfajabboibcgpaa.PG
end
section
namespace Go.Proofs.Ytfajabboibcgpaa.PQ
open Go.RowKit Go.Proofs.YtfajabboibcgpaaW.PrintWords Go.Proofs.YtfajabboibcgpaaW.PrintLast Go.Proofs.YtfajabboibcgpaaW.PrintMore Go.Proofs.Ytfajabboibcgpaa.PB Go.Proofs.Ytfajabboibcgpaa.PD Go.Proofs.Ytfajabboibcgpaa.PK Go.Proofs.Ytfajabboibcgpaa.PL Go.Proofs.Ytfajabboibcgpaa.PS Go.Proofs.Ytfajabboibcgpaa.PT Go.Proofs.Ytfajabboibcgpaa.PU Go.Proofs.Ytfajabboibcgpaa.PG Go.Proofs.Ytfajabboibcgpaa.PA
set_option linter.unusedVariables false
end Go.Proofs.Ytfajabboibcgpaa.PQ
end
section
namespace Go.Proofs.Ytfajabboibcgpaa.PV
open Go.RowKit Go.Proofs.YtfajabboibcgpaaW.PrintWords Go.Proofs.YtfajabboibcgpaaW.PrintLast Go.Proofs.YtfajabboibcgpaaW.PrintMore Go.Proofs.Ytfajabboibcgpaa.PB Go.Proofs.Ytfajabboibcgpaa.PD Go.Proofs.Ytfajabboibcgpaa.PK Go.Proofs.Ytfajabboibcgpaa.PL Go.Proofs.Ytfajabboibcgpaa.PS Go.Proofs.Ytfajabboibcgpaa.PT Go.Proofs.Ytfajabboibcgpaa.PU Go.Proofs.Ytfajabboibcgpaa.PG Go.Proofs.Ytfajabboibcgpaa.PQ Go.Proofs.Ytfajabboibcgpaa.PA
set_option linter.unusedVariables false
end Go.Proofs.Ytfajabboibcgpaa.PV
end
section
namespace Go.Proofs.Ytfajabboibcgpaa.PW
open Go.RowKit Go.Proofs.YtfajabboibcgpaaW.PrintWords Go.Proofs.YtfajabboibcgpaaW.PrintLast Go.Proofs.YtfajabboibcgpaaW.PrintMore Go.Proofs.Ytfajabboibcgpaa.PB Go.Proofs.Ytfajabboibcgpaa.PD Go.Proofs.Ytfajabboibcgpaa.PK Go.Proofs.Ytfajabboibcgpaa.PL Go.Proofs.Ytfajabboibcgpaa.PS Go.Proofs.Ytfajabboibcgpaa.PT Go.Proofs.Ytfajabboibcgpaa.PU Go.Proofs.Ytfajabboibcgpaa.PG Go.Proofs.Ytfajabboibcgpaa.PQ Go.Proofs.Ytfajabboibcgpaa.PV Go.Proofs.Ytfajabboibcgpaa.PA
set_option linter.unusedVariables false
noncomputable def ch (P : Prop) : Bool := @decide P (Classical.propDecidable P)
theorem ch_yes {P : Prop} (h : P) : ch P = true := @decide_eq_true P (Classical.propDecidable P) h
theorem ch_no {P : Prop} (h : ¬ P) : ch P = false := @decide_eq_false P (Classical.propDecidable P) h
theorem loop_yes {β : Type} (n : Nat) (S : Nat → Nat → Option β) (Q : Nat → Prop) (b : β) (hround : ∀ r i, i < n → Q i → Ev (S (i + 1)) r → Ev (S i) r) (hend : Ev (S n) b) (hq : ∀ i, i < n → Q i) : Ev (S 0) b :=
  loop_up n S hend (fun i hi h => hround b i hi (hq i hi) h)
theorem loop_no {β : Type} (n : Nat) (S : Nat → Nat → Option β) (Q : Nat → Prop) (no : β) (hround : ∀ r i, i < n → Q i → Ev (S (i + 1)) r → Ev (S i) r) (hno : ∀ i, i < n → ¬ Q i → Ev (S i) no) (hq : ¬ ∀ i, i < n → Q i) : Ev (S 0) no := by
  refine Classical.byContradiction fun hc => hq ?_
  have key : ∀ i, i ≤ n → (¬ Ev (S i) no) ∧ ∀ j, j < i → Q j := by
    intro i
    induction i with
    | zero => intro _; exact ⟨hc, fun j hj => absurd hj (Nat.not_lt_zero j)⟩
    | succ i ih =>
      intro hi
      obtain ⟨h1, h2⟩ := ih (by omega)
      have hQ : Q i := Classical.byContradiction fun h => h1 (hno i (by omega) h)
      refine ⟨fun h => h1 (hround no i (by omega) hQ h), fun j hj => ?_⟩
      by_cases e : j = i
      · subst e; exact hQ
      · exact h2 j (by omega)
  exact (key n (Nat.le_refl n)).2
theorem not_any {α : Type} (p : α → Bool) : ∀ l : List α, (l.any fun s => !p s) = !(l.all p) := by
  intro l
  induction l with
  | nil => rfl
  | cons x l ih => simp only [List.any_cons, List.all_cons, Bool.not_and, ih]
end Go.Proofs.Ytfajabboibcgpaa.PW
end
section
namespace Go.Proofs.Ytfajabboibcgpaa.PE
open Go.RowKit Go.Proofs.YtfajabboibcgpaaW.PrintWords Go.Proofs.YtfajabboibcgpaaW.PrintLast Go.Proofs.YtfajabboibcgpaaW.PrintMore Go.Proofs.Ytfajabboibcgpaa.PB Go.Proofs.Ytfajabboibcgpaa.PD Go.Proofs.Ytfajabboibcgpaa.PK Go.Proofs.Ytfajabboibcgpaa.PL Go.Proofs.Ytfajabboibcgpaa.PS Go.Proofs.Ytfajabboibcgpaa.PT Go.Proofs.Ytfajabboibcgpaa.PU Go.Proofs.Ytfajabboibcgpaa.PG Go.Proofs.Ytfajabboibcgpaa.PC Go.Proofs.Ytfajabboibcgpaa.PW Go.Proofs.Ytfajabboibcgpaa.PA
set_option linter.unusedVariables false
def digitsOfM (t : ByteArray) : List Int × Bool := if (t.size : Int) ≤ 200 then (digitsM t, true) else ([], false)
theorem digitsOfS (t : ByteArray) : Ev (fun k => spec_DigitsOf.f k t) (digitsOfM t) := by
  unfold digitsOfM
  by_cases h : (t.size : Int) ≤ 200
  · rw [if_pos h]
    exact ev_const (longS t) (ev_pos (decide_eq_true h) (ev_bind (digitsS t (by omega)) (Ev.now _)))
  · rw [if_neg h]
    exact ev_const (longS t) (ev_neg (by simp [h]) (Ev.now _))
theorem digitsOfI (t : ByteArray) : Ev (fun k => impl_DigitsOf.f k t) (digitsOfM t) := by
  unfold digitsOfM
  by_cases h : (t.size : Int) ≤ 200
  · rw [if_pos h]
    exact ev_neg (by omega) (ev_bind (digitsI t (by omega)) (Ev.now _))
  · rw [if_neg h]
    exact ev_pos (by omega) (Ev.now _)
def chainOfM (s : ByteArray) (a b : Int) : ByteArray × Bool := if s.size = 4 ∧ (0 ≤ a ∧ a ≤ 15) ∧ (0 ≤ b ∧ b ≤ 15 - a) then (chainM s a.toNat b.toNat, true) else (⟨#[]⟩, false)
theorem chainOfS (s : ByteArray) (a b : Int) : Ev (fun k => spec_ChainOf.f k s a b) (chainOfM s a b) := by
  unfold chainOfM
  by_cases h1 : s.size = 4
  · refine ev_pos (by omega) (ev_const (inS _ _ _) ?_)
    by_cases h2 : 0 ≤ a ∧ a ≤ 15
    · refine ev_pos (decide_eq_true h2) ?_
      rw [w64 (x := 15 - a) (by omega) (by omega)]
      refine ev_const (inS _ _ _) ?_
      by_cases h3 : 0 ≤ b ∧ b ≤ 15 - a
      · refine ev_pos (decide_eq_true h3) (ev_eq (ev_bind ?_ (Ev.now _)) (if_pos ⟨h1, h2, h3⟩).symm)
        have := chainS s a.toNat b.toNat (by omega) (by omega)
        rw [show ((a.toNat : Nat) : Int) = a by omega, show ((b.toNat : Nat) : Int) = b by omega] at this
        exact this
      · exact ev_neg (by simp [h3]) (ev_eq (Ev.now _) (if_neg (fun h => h3 h.2.2)).symm)
    · exact ev_neg (by simp [h2]) (ev_eq (Ev.now _) (if_neg (fun h => h2 h.2.1)).symm)
  · exact ev_neg (by omega) (ev_eq (Ev.now _) (if_neg (fun h => h1 h.1)).symm)
theorem chainOfI (s : ByteArray) (a b : Int) : Ev (fun k => impl_ChainOf.f k s a b) (chainOfM s a b) := by
  unfold chainOfM
  refine ev_const (isDigI s) ?_
  by_cases h1 : s.size = 4
  · refine ev_pos (decide_eq_true h1) (ev_const (inI _ _ _) ?_)
    by_cases h2 : 0 ≤ a ∧ a ≤ 15
    · refine ev_pos (decide_eq_true h2) ?_
      rw [w64 (x := 15 - a) (by omega) (by omega)]
      refine ev_const (inI _ _ _) ?_
      by_cases h3 : 0 ≤ b ∧ b ≤ 15 - a
      · refine ev_pos (decide_eq_true h3) (ev_eq (ev_bind ?_ (Ev.now _)) (if_pos ⟨h1, h2, h3⟩).symm)
        have := chainI s a.toNat b.toNat (by omega) (by omega)
        rw [show ((a.toNat : Nat) : Int) = a by omega, show ((b.toNat : Nat) : Int) = b by omega] at this
        exact this
      · exact ev_neg (by simp [h3]) (ev_eq (Ev.now _) (if_neg (fun h => h3 h.2.2)).symm)
    · exact ev_neg (by simp [h2]) (ev_eq (Ev.now _) (if_neg (fun h => h2 h.2.1)).symm)
  · exact ev_neg (by simp [h1]) (ev_eq (Ev.now _) (if_neg (fun h => h1 h.1)).symm)
theorem chainM_add (n : Nat) : ∀ (m i : Nat) (s : ByteArray), chainM (chainM s i m) (i + m) n = chainM s i (m + n) := by
  intro m
  induction m with
  | zero => intro i s; rw [Nat.zero_add]; rfl
  | succ m ih =>
    intro i s
    rw [show m + 1 + n = (m + n) + 1 by omega]
    have := ih (i + 1) (dig 99 (one (i : Int) ++ s))
    rw [show i + 1 + m = i + (m + 1) by omega] at this
    exact this
theorem message_d {c : List Int} (hc : Bys c) (i s : Int) (h0 : 0 ≤ i) (h1 : i ≤ 10000000000) : Drawn i 10 (spec_l1Cur_message.f c i s) (fun t => t.size ≤ 201) := by
  obtain ⟨b, i1, s1, e1, _, hi1, hi2⟩ := one_d hc i s 20 h0 (by omega) (by omega)
  unfold spec_l1Cur_message.f
  rw [e1]
  simp only [Option.bind_some]
  cases b with
  | true =>
    obtain ⟨v, i2, s2, e2, hv, hi3, hi4⟩ := pick_d hc i1 s1 2 (by omega) (by omega) (by omega)
    have ew : wrap64 (200 + v) = 200 + v := w64 (by omega) (by omega)
    simp only [if_true, e2, Option.bind_some]
    rw [ew, if_pos (by omega), if_pos (by omega)]
    refine ⟨_, i2, s2, rfl, ?_, by omega, by omega⟩
    show (strOfNums (List.replicate (200 + v).toNat 0)).size ≤ 201
    rw [strOfNums_size, List.length_replicate]; omega
  | false =>
    obtain ⟨v, i2, s2, e2, hv, hi3, hi4⟩ := of_d hc i1 s1 [⟨#[]⟩, ⟨#[97]⟩, ⟨#[98]⟩, ⟨#[112, 97, 121, 32, 53]⟩, ⟨#[112, 97, 121, 32, 54]⟩, ⟨#[97, 32, 114, 111, 111, 116]⟩] (by omega) (by omega) (by decide)
    have hz : v.size ≤ 201 := by
      simp only [List.mem_cons, List.not_mem_nil, or_false] at hv
      rcases hv with rfl | rfl | rfl | rfl | rfl | rfl <;> decide
    rw [if_neg (by simp), e2]
    exact ⟨v, i2, s2, rfl, hz, by omega, by omega⟩
theorem list_ext_rd : ∀ (a b : List Int), a.length = b.length → (∀ i, i < a.length → rd a (i : Int) = rd b (i : Int)) → a = b := by
  intro a
  induction a with
  | nil => intro b h _; exact (List.length_eq_zero_iff.mp h.symm).symm
  | cons x a ih =>
    intro b h he
    cases b with
    | nil => simp at h
    | cons y b =>
      have h0 := he 0 (by simp)
      simp [rd] at h0
      have := ih b (by simpa using h) (fun i hi => by
        have := he (i + 1) (by simp; omega)
        simpa [rd] using this)
      rw [h0, this]
theorem sameInts_d (a b : List Int) (hl : a.length ≤ 2000000) : Ev (fun k => laws_sameInts.f k a b) (decide (a = b)) := by
  unfold laws_sameInts.f
  by_cases h : a.length = b.length
  · refine ev_pos (by omega) ?_
    have round : ∀ (r : Bool) i, i < a.length → rd a (i : Int) = rd b (i : Int) → Ev (fun k => laws_sameInts.l0 k a b (a.length : Int) ((i + 1 : Nat) : Int)) r → Ev (fun k => laws_sameInts.l0 k a b (a.length : Int) (i : Int)) r := by
      intro r i hi hq h
      refine Ev.step (f := fun k => laws_sameInts.l0 k a b (a.length : Int) ((i + 1 : Nat) : Int)) (fun k => ?_) h
      simp only [laws_sameInts.l0]
      rw [if_pos (by omega), if_pos (by omega), if_pos (by omega), if_pos (by omega), if_pos hq, w64 (x := (i : Int) + 1) (by omega) (by omega)]
      rfl
    by_cases hA : ∀ i, i < a.length → rd a (i : Int) = rd b (i : Int)
    · rw [decide_eq_true (list_ext_rd a b h hA)]
      exact loop_yes a.length (fun i k => laws_sameInts.l0 k a b (a.length : Int) (i : Int)) _ true round (Ev.step (f := fun _ => some true) (fun k => by simp only [laws_sameInts.l0]; rw [if_neg (by omega)]) (Ev.now _)) hA
    · rw [decide_eq_false (fun e => hA (fun i _ => by rw [e]))]
      refine loop_no a.length (fun i k => laws_sameInts.l0 k a b (a.length : Int) (i : Int)) _ false round (fun i hi hq => ?_) hA
      refine Ev.step (f := fun _ => some false) (fun k => ?_) (Ev.now _)
      simp only [laws_sameInts.l0]
      rw [if_pos (by omega), if_pos (by omega), if_pos (by omega), if_pos (by omega), if_neg hq]
  · refine ev_neg (by omega) ?_
    rw [decide_eq_false (fun e => h (by rw [e]))]
    exact Ev.now _
end Go.Proofs.Ytfajabboibcgpaa.PE
end
section
namespace Go.Proofs.Ytfajabboibcgpaa.Pure
open Go.RowKit Go.Proofs.YtfajabboibcgpaaW.PrintWords Go.Proofs.YtfajabboibcgpaaW.PrintLast Go.Proofs.YtfajabboibcgpaaW.PrintMore Go.Proofs.Ytfajabboibcgpaa.PB Go.Proofs.Ytfajabboibcgpaa.PD Go.Proofs.Ytfajabboibcgpaa.PK Go.Proofs.Ytfajabboibcgpaa.PL Go.Proofs.Ytfajabboibcgpaa.PT Go.Proofs.Ytfajabboibcgpaa.PU Go.Proofs.Ytfajabboibcgpaa.PC Go.Proofs.Ytfajabboibcgpaa.PW Go.Proofs.Ytfajabboibcgpaa.PE Go.Proofs.Ytfajabboibcgpaa.PA
set_option linter.unusedVariables false
def le2 : List Int → List Int → Prop
  | [], [] => True
  | a :: x, b :: y => a ≤ b ∧ le2 x y
  | _, _ => False
theorem le2_of : ∀ (x y : List Int), x.length = y.length → (∀ i, i < x.length → rd x (i : Int) ≤ rd y (i : Int)) → le2 x y := by
  intro x
  induction x with
  | nil => intro y h _; rw [List.length_eq_zero_iff.mp h.symm]; exact trivial
  | cons a x ih =>
    intro y h hl
    cases y with
    | nil => simp at h
    | cons b y =>
      have h0 := hl 0 (by simp)
      simp [rd] at h0
      exact ⟨h0, ih y (by simpa using h) (fun i hi => by
        have := hl (i + 1) (by simp; omega)
        simpa [rd] using this)⟩
theorem le2_app : ∀ (A B C D : List Int), A.length = B.length → le2 (A ++ C) (B ++ D) → le2 A B ∧ le2 C D := by
  intro A
  induction A with
  | nil => intro B C D h hl; rw [List.length_eq_zero_iff.mp h.symm] at hl ⊢; exact ⟨trivial, hl⟩
  | cons a A ih =>
    intro B C D h hl
    cases B with
    | nil => simp at h
    | cons b B =>
      obtain ⟨h1, h2⟩ := hl
      obtain ⟨h3, h4⟩ := ih B C D (by simpa using h) h2
      exact ⟨⟨h1, h3⟩, h4⟩
theorem le2_sm : ∀ (A B : List Int), le2 A B → sm B ≤ sm A ∧ (sm A = sm B → A = B) := by
  intro A
  induction A with
  | nil =>
    intro B h
    cases B with
    | nil => exact ⟨Int.le_refl _, fun _ => rfl⟩
    | cons b B => exact h.elim
  | cons a A ih =>
    intro B h
    cases B with
    | nil => exact h.elim
    | cons b B =>
      obtain ⟨h1, h2⟩ := h
      obtain ⟨h3, h4⟩ := ih B h2
      simp only [sm]
      refine ⟨by omega, fun e => ?_⟩
      have e1 : a = b := by omega
      rw [e1, h4 (by omega)]
theorem winternitz (a b : ByteArray) (h : ∀ i : Nat, i < 11 → rd (digitsM a) (i : Int) ≤ rd (digitsM b) (i : Int)) : digitsM a = digitsM b := by
  have h1 := le2_of (digitsM a) (digitsM b) (by rw [digitsM_length, digitsM_length]) (by rw [digitsM_length]; exact h)
  unfold digitsM at h1 ⊢
  have hl : ∀ x : ByteArray, (nibs (dig 109 x).toList).length = 8 := fun x => by rw [nibs_length, size_toList, dig_size]
  obtain ⟨h2, h3⟩ := le2_app _ _ _ _ (by rw [hl, hl]) h1
  obtain ⟨h4, h5⟩ := le2_sm _ _ h2
  have ba := sm_nibs (dig 109 a).toList
  have bb := sm_nibs (dig 109 b).toList
  rw [size_toList, dig_size] at ba bb
  unfold checksM at h3
  obtain ⟨g1, g2, g3, _⟩ := h3
  have e : sm (nibs (dig 109 a).toList) = sm (nibs (dig 109 b).toList) := by omega
  rw [h5 e]
def digB (n : Int) : Bool := decide (0 ≤ n ∧ n ≤ 15)
def digsB (l : List Int) : Bool := decide ((l.length : Int) = 11) && l.all digB
theorem all_rd (l : List Int) (p : Int → Bool) : l.all p = true ↔ ∀ i, i < l.length → p (rd l (i : Int)) = true := by
  rw [List.all_eq_true]
  constructor
  · intro h i hi
    rw [rd_at _ _ hi]
    exact h _ (List.getElem_mem hi)
  · intro h x hx
    obtain ⟨i, hi, e⟩ := List.getElem_of_mem hx
    have := h i hi
    rw [rd_at _ _ hi, e] at this
    exact this
theorem areDigitsI (l : List Int) : Ev (fun k => impl_areDigits.f k l) (digsB l) := by
  unfold impl_areDigits.f digsB
  by_cases h : (l.length : Int) = 11
  · refine ev_pos h ?_
    rw [decide_eq_true h, Bool.true_and]
    obtain ⟨r, hr, e⟩ := idx_any l (fun l i => rd l i) (fun i h => rd_at l i h) slices_IndexFunc_impl_areDigits_1.l0 (fun _ s => impl_areDigits_1.f s) (fun s => !digB s) (fun k n i => rfl) (fun x _ => ev_of_eq (by unfold impl_areDigits_1.f; rw [inI]; rfl)) (by omega)
    have hc : Ev (fun k => slices_ContainsFunc_impl_areDigits_1.f k l) (l.any fun s => !digB s) := by
      rw [← e]
      exact ev_bind (f := fun _ t => some (decide (t ≥ 0))) hr (Ev.now _)
    rw [not_any] at hc
    refine ev_eq (ev_bind (f := fun _ t => some (!t)) hc (Ev.now _)) ?_
    rw [Bool.not_not]
  · refine ev_neg h ?_
    rw [decide_eq_false h]
    exact Ev.now _
theorem allDigitsS (l : List Int) (hl : l.length ≤ 2000000) : Ev (fun k => spec_l1All.f k l 0 15) (l.all digB) := by
  have round : ∀ (r : Bool) i, i < l.length → digB (rd l (i : Int)) = true → Ev (fun k => spec_l1All.l0 k 0 15 l (l.length : Int) ((i + 1 : Nat) : Int)) r → Ev (fun k => spec_l1All.l0 k 0 15 l (l.length : Int) (i : Int)) r := by
    intro r i hi hq h
    refine Ev.step (f := fun k => spec_l1All.l0 k 0 15 l (l.length : Int) ((i + 1 : Nat) : Int)) (fun k => ?_) h
    simp only [spec_l1All.l0]
    rw [if_pos (by omega), if_pos (by omega), if_pos (by omega), inS, w64 (x := (i : Int) + 1) (by omega) (by omega)]
    simp only [Option.bind_some]
    exact if_pos hq
  by_cases hA : ∀ i, i < l.length → digB (rd l (i : Int)) = true
  · rw [(all_rd l digB).2 hA]
    exact loop_yes l.length (fun i k => spec_l1All.l0 k 0 15 l (l.length : Int) (i : Int)) _ true round (Ev.step (f := fun _ => some true) (fun k => by simp only [spec_l1All.l0]; rw [if_neg (by omega)]) (Ev.now _)) hA
  · have e : l.all digB = false := by
      cases h : l.all digB with
      | false => rfl
      | true => exact absurd ((all_rd l digB).1 h) hA
    rw [e]
    refine loop_no l.length (fun i k => spec_l1All.l0 k 0 15 l (l.length : Int) (i : Int)) _ false round (fun i hi hq => ?_) hA
    refine Ev.step (f := fun _ => some false) (fun k => ?_) (Ev.now _)
    simp only [spec_l1All.l0]
    rw [if_pos (by omega), if_pos (by omega), if_pos (by omega), inS]
    simp only [Option.bind_some]
    exact if_neg hq
theorem below_eq : ∀ k b a n i, impl_IsBelow.l0 k b a n i = spec_IsBelow.l0 k b a n i := by
  intro k
  induction k with
  | zero => intros; rfl
  | succ k ih => intros; simp only [impl_IsBelow.l0, spec_IsBelow.l0, ih]
noncomputable def belowM (a b : List Int) : Bool × Bool := if digsB a = true ∧ digsB b = true then (ch (∀ i, i < a.length → rd a (i : Int) ≤ rd b (i : Int)), true) else (false, false)
theorem digs_len {l : List Int} (h : digsB l = true) : l.length = 11 := by
  unfold digsB at h
  rw [Bool.and_eq_true] at h
  have := of_decide_eq_true h.1
  omega
theorem below_loop (a b : List Int) (ha : digsB a = true) (hb : digsB b = true) : Ev (fun k => spec_IsBelow.l0 k b a (a.length : Int) 0) (belowM a b) := by
  have la := digs_len ha
  have lb := digs_len hb
  unfold belowM
  rw [if_pos ⟨ha, hb⟩]
  have round : ∀ (r : Bool × Bool) i, i < a.length → rd a (i : Int) ≤ rd b (i : Int) → Ev (fun k => spec_IsBelow.l0 k b a (a.length : Int) ((i + 1 : Nat) : Int)) r → Ev (fun k => spec_IsBelow.l0 k b a (a.length : Int) (i : Int)) r := by
    intro r i hi hq h
    refine Ev.step (f := fun k => spec_IsBelow.l0 k b a (a.length : Int) ((i + 1 : Nat) : Int)) (fun k => ?_) h
    simp only [spec_IsBelow.l0]
    rw [if_pos (by omega), if_pos (by omega), if_pos (by omega), if_pos (by omega), if_neg (by omega), w64 (x := (i : Int) + 1) (by omega) (by omega)]
    rfl
  by_cases hA : ∀ i, i < a.length → rd a (i : Int) ≤ rd b (i : Int)
  · rw [ch_yes hA]
    exact loop_yes a.length (fun i k => spec_IsBelow.l0 k b a (a.length : Int) (i : Int)) _ (true, true) round (Ev.step (f := fun _ => some (true, true)) (fun k => by simp only [spec_IsBelow.l0]; rw [if_neg (by omega)]) (Ev.now _)) hA
  · rw [ch_no hA]
    refine loop_no a.length (fun i k => spec_IsBelow.l0 k b a (a.length : Int) (i : Int)) _ (false, true) round (fun i hi hq => ?_) hA
    refine Ev.step (f := fun _ => some (false, true)) (fun k => ?_) (Ev.now _)
    simp only [spec_IsBelow.l0]
    rw [if_pos (by omega), if_pos (by omega), if_pos (by omega), if_pos (by omega), if_pos (by omega)]
theorem belowS (a b : List Int) (ha : a.length ≤ 2000000) (hb : b.length ≤ 2000000) : Ev (fun k => spec_IsBelow.f k a b) (belowM a b) := by
  have y : Ev (fun k => spec_IsBelow.j0 k a b true) (false, false) := Ev.step (f := fun _ => some (false, false)) (fun k => by simp only [spec_IsBelow.j0]; rw [if_pos trivial]) (Ev.now _)
  have no : ¬ (digsB a = true ∧ digsB b = true) → belowM a b = (false, false) := fun h => if_neg h
  unfold spec_IsBelow.f
  by_cases h1 : (a.length : Int) = 11
  · refine ev_pos h1 ?_
    by_cases h2 : (b.length : Int) = 11
    · refine ev_pos h2 (ev_bind (allDigitsS a ha) ?_)
      cases h3 : a.all digB with
      | false => exact ev_neg (by simp) (ev_eq y (no (fun h => by have := h.1; unfold digsB at this; rw [h3, Bool.and_false] at this; cases this)).symm)
      | true =>
        refine ev_pos rfl (ev_bind (allDigitsS b hb) ?_)
        cases h4 : b.all digB with
        | false => exact ev_eq y (no (fun h => by have := h.2; unfold digsB at this; rw [h4, Bool.and_false] at this; cases this)).symm
        | true =>
          have ga : digsB a = true := by unfold digsB; rw [h3, decide_eq_true h1]; rfl
          have gb : digsB b = true := by unfold digsB; rw [h4, decide_eq_true h2]; rfl
          exact Ev.step (f := fun k => spec_IsBelow.l0 k b a (a.length : Int) 0) (fun k => by simp only [Bool.not_true, spec_IsBelow.j0]; rw [if_neg (by simp)]) (below_loop a b ga gb)
    · exact ev_neg h2 (ev_eq y (no (fun h => h2 (by have := digs_len h.2; omega))).symm)
  · exact ev_neg h1 (ev_eq y (no (fun h => h1 (by have := digs_len h.1; omega))).symm)
theorem belowI (a b : List Int) : Ev (fun k => impl_IsBelow.f k a b) (belowM a b) := by
  have y : Ev (fun k => impl_IsBelow.j0 k a b true) (false, false) := Ev.step (f := fun _ => some (false, false)) (fun k => by simp only [impl_IsBelow.j0]; rw [if_pos trivial]) (Ev.now _)
  have no : ¬ (digsB a = true ∧ digsB b = true) → belowM a b = (false, false) := fun h => if_neg h
  refine ev_bind (areDigitsI a) ?_
  cases h1 : digsB a with
  | false => exact ev_neg (by simp) (ev_eq y (no (fun h => by rw [h1] at h; cases h.1)).symm)
  | true =>
    refine ev_pos rfl (ev_bind (areDigitsI b) ?_)
    cases h2 : digsB b with
    | false => exact ev_eq y (no (fun h => by rw [h2] at h; cases h.2)).symm
    | true =>
      exact Ev.step (f := fun k => impl_IsBelow.l0 k b a (a.length : Int) 0) (fun k => by simp only [Bool.not_true, impl_IsBelow.j0]; rw [if_neg (by simp)]) (Ev.congr (fun k => below_eq _ _ _ _ _) (below_loop a b h1 h2))
theorem digsB_digits (t : ByteArray) : digsB (digitsM t) = true := by
  unfold digsB
  rw [decide_eq_true (by rw [digitsM_length]; rfl), Bool.true_and, List.all_eq_true]
  exact fun n hn => decide_eq_true (digitsM_in t n hn)
theorem drawDigitsOf {c : List Int} (hc : Bys c) : ∃ t, spec_DrawDigitsOf.f c = some t := by
  obtain ⟨t, i, s, e, _⟩ := message_d hc 0 0 (by omega) (by omega)
  exact ⟨t, by unfold spec_DrawDigitsOf.f; rw [e]; rfl⟩
theorem drawChainOf {c : List Int} (hc : Bys c) : ∃ s a b, spec_DrawChainOf.f c = some (s, a, b) := by
  obtain ⟨t, i, s, e, _, h1, h2⟩ := of_d hc 0 0 [⟨#[97, 98, 99, 100]⟩, ⟨#[0, 0, 0, 0]⟩, ⟨#[97, 98, 99]⟩, ⟨#[122, 122, 122, 122]⟩] (by omega) (by omega) (by decide)
  obtain ⟨v, i2, s2, e2, _, h3, h4⟩ := pick_d hc i s 18 (by omega) (by omega) (by omega)
  obtain ⟨u, i3, s3, e3, _, h5, h6⟩ := pick_d hc i2 s2 18 (by omega) (by omega) (by omega)
  exact ⟨t, wrap64 (v - 1), wrap64 (u - 1), by unfold spec_DrawChainOf.f; rw [e]; simp only [Option.bind_some, e2, e3]⟩
theorem digitsOfM_len (t : ByteArray) : (digitsOfM t).1.length ≤ 11 := by
  unfold digitsOfM
  split
  · exact Nat.le_of_eq (digitsM_length t)
  · exact Nat.zero_le _
theorem drawIsBelow {c : List Int} (hc : Bys c) : ∃ p q, Ev (fun k => spec_DrawIsBelow.f k c) (p, q) ∧ p.length ≤ 11 ∧ q.length ≤ 11 := by
  obtain ⟨t, i, s, e, _, h1, h2⟩ := message_d hc 0 0 (by omega) (by omega)
  obtain ⟨u, i2, s2, e2, _, h3, h4⟩ := message_d hc i s (by omega) (by omega)
  have lt := digitsOfM_len t
  have lu := digitsOfM_len u
  have j2 : ∀ (p q : List Int) (i s : Int), 0 ≤ i → i ≤ 1000 → p.length ≤ 11 → q.length ≤ 11 → ∃ p' q', Ev (fun k => spec_DrawIsBelow.j2 k p q c i s) (p', q') ∧ p'.length ≤ 11 ∧ q'.length ≤ 11 := by
    intro p q i s h0 h1 hp hq
    by_cases c1 : (p.length : Int) > 0
    · obtain ⟨b, i3, s3, e3, _, h5, h6⟩ := one_d hc i s 12 (by omega) (by omega) (by omega)
      cases b with
      | true =>
        obtain ⟨v, i4, s4, e4, _, h7, h8⟩ := among_d hc i3 s3 [-1, 15, 16] (by omega) (by omega) (by decide)
        refine ⟨p.set 0 v, q, Ev.step (f := fun k => some (p.set 0 v, q)) (fun k => ?_) (Ev.now _), by rw [List.length_set]; exact hp, hq⟩
        simp only [spec_DrawIsBelow.j2]
        rw [if_pos c1, e3]
        simp only [Option.bind_some, if_true, e4]
        rw [if_pos (by omega)]
        rfl
      | false =>
        refine ⟨p, q, Ev.step (f := fun k => some (p, q)) (fun k => ?_) (Ev.now _), hp, hq⟩
        simp only [spec_DrawIsBelow.j2]
        rw [if_pos c1, e3]
        simp only [Option.bind_some]
        rw [if_neg (by simp)]
    · refine ⟨p, q, Ev.step (f := fun k => some (p, q)) (fun k => ?_) (Ev.now _), hp, hq⟩
      simp only [spec_DrawIsBelow.j2]
      rw [if_neg c1]
  have l0 : ∀ (q : List Int) (i s : Int), 0 ≤ i → i ≤ 1000 → q.length ≤ 11 → ∀ (d j : Nat) (p : List Int), p.length = q.length → j + d = p.length → ∃ p' q', Ev (fun k => spec_DrawIsBelow.l0 k p q (p.length : Int) (j : Int) c i s) (p', q') ∧ p'.length ≤ 11 ∧ q'.length ≤ 11 := by
    intro q i s h0 h1 hq d
    induction d with
    | zero =>
      intro j p hp hj
      obtain ⟨p', q', hr, hz⟩ := j2 p q i s h0 h1 (by omega) hq
      exact ⟨p', q', Ev.step (f := fun k => spec_DrawIsBelow.j2 k p q c i s) (fun k => by simp only [spec_DrawIsBelow.l0]; rw [if_neg (by omega)]) hr, hz⟩
    | succ d ih =>
      intro j p hp hj
      have hv : ∃ v, spec_l1Least.f (rd p (j : Int)) (rd q (j : Int)) = some v := by
        unfold spec_l1Least.f
        split
        · exact ⟨_, rfl⟩
        · exact ⟨_, rfl⟩
      obtain ⟨v, hv⟩ := hv
      obtain ⟨p', q', hr, hz⟩ := ih (j + 1) (p.set j v) (by rw [List.length_set]; exact hp) (by rw [List.length_set]; omega)
      rw [List.length_set] at hr
      refine ⟨p', q', Ev.step (f := fun k => spec_DrawIsBelow.l0 k (p.set j v) q (p.length : Int) ((j + 1 : Nat) : Int) c i s) (fun k => ?_) hr, hz⟩
      simp only [spec_DrawIsBelow.l0]
      rw [if_pos (by omega), if_pos (by omega), if_pos (by omega), if_pos (by omega), hv, w64 (x := (j : Int) + 1) (by omega) (by omega)]
      rfl
  have j0 : ∀ (b : Bool) (p q : List Int) (i s : Int), 0 ≤ i → i ≤ 1000 → p.length ≤ 11 → q.length ≤ 11 → (b = true → p.length = q.length) → ∃ p' q', Ev (fun k => spec_DrawIsBelow.j0 k p q b c i s) (p', q') ∧ p'.length ≤ 11 ∧ q'.length ≤ 11 := by
    intro b p q i s h0 h1 hp hq hb
    cases b with
    | true =>
      obtain ⟨p', q', hr, hz⟩ := l0 q i s h0 h1 hq p.length 0 p (hb rfl) (by omega)
      exact ⟨p', q', Ev.step (f := fun k => spec_DrawIsBelow.l0 k p q (p.length : Int) 0 c i s) (fun k => by simp only [spec_DrawIsBelow.j0]; rw [if_pos trivial]) hr, hz⟩
    | false =>
      obtain ⟨p', q', hr, hz⟩ := j2 p q i s h0 h1 hp hq
      exact ⟨p', q', Ev.step (f := fun k => spec_DrawIsBelow.j2 k p q c i s) (fun k => by simp only [spec_DrawIsBelow.j0]; rw [if_neg (by simp)]) hr, hz⟩
  by_cases c1 : ((digitsOfM t).1.length : Int) > 0
  · by_cases c2 : ((digitsOfM u).1.length : Int) = ((digitsOfM t).1.length : Int)
    · obtain ⟨b, i3, s3, e3, _, h5, h6⟩ := one_d hc i2 s2 3 (by omega) (by omega) (by omega)
      obtain ⟨p, q, hr, hz⟩ := j0 b (digitsOfM t).1 (digitsOfM u).1 i3 s3 (by omega) (by omega) lt lu (fun _ => by omega)
      exact ⟨p, q, ev_const e (ev_bind (digitsOfS t) (ev_const e2 (ev_bind (digitsOfS u) (ev_pos c1 (ev_pos c2 (ev_const e3 hr)))))), hz⟩
    · obtain ⟨p, q, hr, hz⟩ := j0 false (digitsOfM t).1 (digitsOfM u).1 i2 s2 (by omega) (by omega) lt lu (fun h => by cases h)
      exact ⟨p, q, ev_const e (ev_bind (digitsOfS t) (ev_const e2 (ev_bind (digitsOfS u) (ev_pos c1 (ev_neg c2 hr))))), hz⟩
  · obtain ⟨p, q, hr, hz⟩ := j0 false (digitsOfM t).1 (digitsOfM u).1 i2 s2 (by omega) (by omega) lt lu (fun h => by cases h)
    exact ⟨p, q, ev_const e (ev_bind (digitsOfS t) (ev_const e2 (ev_bind (digitsOfS u) (ev_neg c1 hr)))), hz⟩
theorem FnDigits : laws_FnDigits.Pure := by
  intro l0 l1 hl0 hm0 hc0 hl1 hm1 hc1
  refine Ev.rounds ?_
  unfold laws_FnDigits.f
  by_cases hsz : wrap64 ((l0.length : Int) + (l1.length : Int)) > 1048576
  · exact ev_pos hsz (Ev.now _)
  have hn : (l0.length : Int) ≤ 2000000 ∧ (l1.length : Int) ≤ 2000000 := by
    have h1 : (l0.length : Int) ≤ 140737488351232 := by omega
    have h2 : (l1.length : Int) ≤ 140737488351232 := by omega
    rw [w64 (by omega) (by omega)] at hsz
    omega
  refine ev_neg hsz ?_
  have c0 := code_of l0 hc0
  have c1 := code_of l1 hc1
  obtain ⟨a, ea⟩ := drawDigitsOf c0
  obtain ⟨b, eb⟩ := drawDigitsOf c1
  have la := digitsOfM_len a
  refine ev_const ea (ev_const eb (ev_bind (digitsOfI a) (ev_bind (digitsOfS a) (ev_bind (digitsOfI b) (ev_neg (by simp) (ev_bind (sameInts_d _ _ (by omega)) ?_))))))
  rw [decide_eq_true rfl]
  simp only [Bool.not_true]
  -- the end
  obtain ⟨p, q, hpq, hp, hq⟩ := drawIsBelow c1
  have fin : Ev (fun k => (spec_DrawIsBelow.f k l1).bind fun bt => ((impl_IsBelow.f k bt.1 bt.2).bind fun x => ((spec_IsBelow.f k bt.1 bt.2).bind fun y => (if (x.2 == y.2) = true then (some (x.1 == y.1)) else (some false))))) true :=
    ev_bind hpq (ev_bind (belowI p q) (ev_bind (belowS p q (by omega) (by omega)) (ev_pos (by simp) (ev_eq (Ev.now _) (by simp)))))
  have j4 : Ev (fun k => laws_FnDigits.j4 k l1 false) true := by
    refine Ev.step (f := fun k => _) (fun k => by simp only [laws_FnDigits.j4]; rfl) ?_
    exact ev_neg (by simp) fin
  obtain ⟨s, f, y, ec⟩ := drawChainOf c1
  have j2 : Ev (fun k => laws_FnDigits.j2 k l0 l1) true := by
    refine Ev.step (f := fun k => _) (fun k => by simp only [laws_FnDigits.j2]; rfl) ?_
    refine ev_const ec (ev_bind (chainOfI s f y) (ev_bind (chainOfS s f y) (ev_neg (by simp) ?_)))
    simp only [bne_self_eq_false]
    refine Ev.step (f := fun k => _) (fun k => by simp only [laws_FnDigits.j3]; rfl) ?_
    refine ev_neg (by simp) ?_
    by_cases hg : s.size = 4 ∧ (0 ≤ f ∧ f ≤ 15) ∧ (0 ≤ y ∧ y ≤ 15 - f)
    · have e : chainOfM s f y = (chainM s f.toNat y.toNat, true) := if_pos hg
      rw [e]
      obtain ⟨n, hnum, n0, n1⟩ := number_d c0 (by omega)
      refine ev_pos rfl (ev_bind hnum ?_)
      rw [w64 (x := y + 1) (by omega) (by omega), Int.tmod_eq_emod_of_nonneg n0]
      have m0 := Int.emod_nonneg n (show y + 1 ≠ 0 by omega)
      have m1 := Int.emod_lt_of_pos n (show 0 < y + 1 by omega)
      refine ev_neg (by omega) ?_
      generalize n % (y + 1) = m at m0 m1 ⊢
      have e1 : chainOfM s f m = (chainM s f.toNat m.toNat, true) := if_pos ⟨hg.1, hg.2.1, by omega⟩
      have z1 := chainM_size s hg.1 m.toNat f.toNat
      have e2 : chainOfM (chainM s f.toNat m.toNat) (f + m) (y - m) = (chainM (chainM s f.toNat m.toNat) (f + m).toNat (y - m).toNat, true) := if_pos ⟨z1, by omega, by omega⟩
      have e3 : chainM (chainM s f.toNat m.toNat) (f + m).toNat (y - m).toNat = chainM s f.toNat y.toNat := by
        rw [show (f + m).toNat = f.toNat + m.toNat by omega, chainM_add, show m.toNat + (y - m).toNat = y.toNat by omega]
      have h1 := chainOfI s f m
      rw [e1] at h1
      have h2 := chainOfI (chainM s f.toNat m.toNat) (f + m) (y - m)
      rw [e2, e3] at h2
      rw [w64 (x := f + m) (by omega) (by omega), w64 (x := y - m) (by omega) (by omega)]
      refine ev_bind h1 (ev_bind h2 (ev_pos rfl (ev_pos rfl ?_)))
      simp only [bne_self_eq_false]
      exact j4
    · have e : chainOfM s f y = (⟨#[]⟩, false) := if_neg hg
      rw [e]
      exact ev_neg (by simp) fin
  refine Ev.step (f := fun k => _) (fun k => by simp only [laws_FnDigits.j0]; rfl) ?_
  refine ev_neg (by simp) ?_
  have j1f : Ev (fun k => laws_FnDigits.j1 k l0 l1 (digitsOfM a).1 (digitsOfM b).1 false) true := by
    refine Ev.step (f := fun k => _) (fun k => by simp only [laws_FnDigits.j1]; rfl) ?_
    exact ev_neg (by simp) j2
  by_cases ga : (a.size : Int) ≤ 200
  · have e : digitsOfM a = (digitsM a, true) := if_pos ga
    by_cases gb : (b.size : Int) ≤ 200
    · have e2 : digitsOfM b = (digitsM b, true) := if_pos gb
      rw [e, e2]
      refine ev_pos rfl ?_
      refine Ev.step (f := fun k => _) (fun k => by simp only [laws_FnDigits.j1]; rfl) ?_
      refine ev_pos trivial (ev_bind (belowI _ _) ?_)
      have hb : belowM (digitsM a) (digitsM b) = (ch (∀ i, i < (digitsM a).length → rd (digitsM a) (i : Int) ≤ rd (digitsM b) (i : Int)), true) := if_pos ⟨digsB_digits a, digsB_digits b⟩
      rw [hb]
      refine ev_pos rfl (ev_bind (sameInts_d _ _ (by rw [digitsM_length]; omega)) ?_)
      have hw : ch (∀ i, i < (digitsM a).length → rd (digitsM a) (i : Int) ≤ rd (digitsM b) (i : Int)) = decide (digitsM a = digitsM b) := by
        by_cases hA : ∀ i, i < (digitsM a).length → rd (digitsM a) (i : Int) ≤ rd (digitsM b) (i : Int)
        · rw [ch_yes hA, decide_eq_true (winternitz a b (fun i hi => hA i (by rw [digitsM_length]; exact hi)))]
        · rw [ch_no hA, decide_eq_false (fun h => hA (fun i _ => by rw [h]; exact Int.le_refl _))]
      rw [hw]
      exact ev_neg (by simp) j2
    · have e2 : digitsOfM b = ([], false) := if_neg gb
      rw [e, e2]
      rw [e, e2] at j1f
      exact ev_pos rfl j1f
  · have e : digitsOfM a = ([], false) := if_neg ga
    rw [e]
    rw [e] at j1f
    exact ev_neg (by simp) j1f
end Go.Proofs.Ytfajabboibcgpaa.Pure
end
