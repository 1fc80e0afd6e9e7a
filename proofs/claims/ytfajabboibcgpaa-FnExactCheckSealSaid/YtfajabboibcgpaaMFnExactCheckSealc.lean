/- For the law FnExactCheckSeal: what it needs of the words, of the printed functions and of the plain laws, in few texts (laid by merge.py of this workplace). -/
import Derived.Test.YtfajabboibcgpaaMFnExactCheckSealb
import Derived.Laws.BitsLemmas
import Derived.Deep.Slices
import Derived.ChangeArms
import Derived.DataReads
section
namespace Go.Proofs.Ytfajabboibcgpaa.PA
open Go.RowKit Go.Proofs.YtfajabboibcgpaaW.PrintWords Go.Proofs.YtfajabboibcgpaaW.PrintLast Go.Proofs.YtfajabboibcgpaaW.PrintMore
attribute [local go_sem] max2_int min2_int max_two min_two max_three min_three max_four min_four   -- for this text's walks alone
set_option linter.unusedVariables false
set_option linter.unusedSimpArgs false
def impl_areDigests_1.f (a0 : ByteArray) : Option (Bool) := (impl_isDigest.f a0).bind fun t481 => (some (!t481))
set_option maxHeartbeats 8000000 in
set_option maxRecDepth 100000 in
theorem impl_areDigests_1.calls (a0 : ByteArray) (r : Bool) (w : World) (h : impl_areDigests_1.f a0 = some r) :
  Calls Try.prog 188 #[.string a0] w fun e w' => e = .returned (.bool r) ∧ Drawn0 w w' := by
 have H : ((impl_isDigest.f a0).bind fun t481 => (some (!t481))) = some r := h
 clear h
 replace H := Option.bind_eq_some_iff.mp H
 obtain ⟨t481, A20, H⟩ := H
 replace H : (some (!t481)) = some r := H
 have A2 := Aside0.mk A20
 clear A20
 obtain rfl := Option.some.inj H
 go_enter Try.func188, Try.ntmps188
 go_wp2_with (first | ((with_reducible refine gate_callee (f := 103) rfl ?_); refine goesL_ (some 4) rfl rfl Try.func103 (by kernel_rfl) rfl #[.string a0] rfl (by (try simp only [List.map_toArray, List.map_cons, List.map_nil]); first | done | rfl | (simp only [List.length_drop, List.length_take]; rfl)) ?_; (with_reducible refine (impl_isDigest.calls a0 t481 _ A2.out).mono ?_); rintro e w' ⟨rfl, ⟨nd, rfl⟩⟩; refine ⟨_, rfl, ?_⟩))
 go_ret
 exact ⟨by first | rfl | (simp; done) | (simp [*]; done) | (simp [bne]; done), by repeat (first | exact Drawn0.refl _ | apply Drawn0.step)⟩
def slices_IndexFunc_impl_areDigests_1.l0 : Nat → List ByteArray → Int → Int → Option (Int)
 | 0, _, _, _ => none
 | k + 1, x0, x7, x8 => if x8 < x7 then (if 0 ≤ x8 then (if x8 < (x0.length : Int) then ((impl_areDigests_1.f (rdOf ByteArray.empty x0 x8)).bind fun t483 => (if t483 = true then (some x8) else (slices_IndexFunc_impl_areDigests_1.l0 k x0 x7 (wrap64 (x8 + 1))))) else (none)) else (none)) else (some (-1))
def slices_IndexFunc_impl_areDigests_1.f (k : Nat) (l0 : List ByteArray)  : Option (Int) := slices_IndexFunc_impl_areDigests_1.l0 k l0 (l0.length : Int) 0
set_option maxHeartbeats 8000000 in
set_option maxRecDepth 100000 in
theorem slices_IndexFunc_impl_areDigests_1.calls (k : Nat) (A0 : Option Addr) (c0 : Nat) (l0 : List ByteArray)  (r : Int) (w : World) (hr0 : Kd.C Kd.string w A0 l0.length l0) (hc0 : l0.length ≤ c0) (h : slices_IndexFunc_impl_areDigests_1.f k l0 = some r) :
  Calls Try.prog 196 #[.slice A0 l0.length c0, .func (.func 188) #[] #[]] w fun e w' => e = .returned (.int .i64 r) ∧ Drawn0 w w' := by
 have HR0 := Aside0.mk hr0
 have HC0 := Aside0.mk hc0
 clear hr0 hc0
 have H : (slices_IndexFunc_impl_areDigests_1.l0 k l0 (l0.length : Int) 0) = some r := h
 clear h
 have H' := Aside0.mk H
 clear H
 go_enter Try.func196, Try.ntmps196
 go_wp2
 go_loopg [8] k (fun kq v8 w' => ∃ (x8_1 : Int), v8 = .int .i64 x8_1 ∧ Aside0 (slices_IndexFunc_impl_areDigests_1.l0 kq l0 (l0.length : Int) x8_1 = some r) ∧ Aside0 (kq ≤ k) ∧ Drawn0 w w')
 case atStart => exact ⟨(0), (by first | rfl | (simp; done) | (simp [*]; done) | (simp [bne]; done)), H', ⟨Nat.le_refl _⟩, by repeat (first | exact Drawn0.refl _ | apply Drawn0.step)⟩
 case round =>
  clear H'
  try clear p2
  obtain ⟨x8_1, rfl, HA, HK1, ⟨m1, rfl⟩⟩ := hrel
  cases gk with
  | zero => exact absurd HA.out (by simp [slices_IndexFunc_impl_areDigests_1.l0])
  | succ k1 =>
   have H := HA.out
   clear HA
   simp only [slices_IndexFunc_impl_areDigests_1.l0] at H
   by_cases c3 : x8_1 < (l0.length : Int)
   ·rw [if_pos c3] at H
    have c3b0 : decide (x8_1 < (l0.length : Int)) = true := decide_eq_true c3
    clear c3
    by_cases c4 : 0 ≤ x8_1
    ·rw [if_pos c4] at H
     have c4b0 : decide (0 ≤ x8_1) = true := decide_eq_true c4
     clear c4
     by_cases c5 : x8_1 < (l0.length : Int)
     ·rw [if_pos c5] at H
      have c5b0 : decide (x8_1 < (l0.length : Int)) = true := decide_eq_true c5
      clear c5
      replace H := Option.bind_eq_some_iff.mp H
      obtain ⟨t483, A60, H⟩ := H
      replace H : (if t483 = true then (some x8_1) else (slices_IndexFunc_impl_areDigests_1.l0 k1 l0 (l0.length : Int) (wrap64 (x8_1 + 1)))) = some r := H
      have A6 := Aside0.mk A60
      clear A60
      by_cases c7 : t483 = true
      ·subst c7
       have H1 : (some x8_1) = some r := by rw [if_pos rfl] at H; exact H
       clear H
       have H := H1
       clear H1
       obtain rfl := Option.some.inj H
       have p482 : 0 ≤ (x8_1 : Int) := of_decide_eq_true (by first | (with_reducible assumption) | assumption)
       have q482 : x8_1 < (l0.length : Int) := of_decide_eq_true (by first | (with_reducible assumption) | assumption)
       obtain ⟨ad482, e482, hx482_0⟩ := Kd.at_string HR0.out x8_1 p482 q482
       cases e482
       replace p482 := eq_true p482
       replace q482 := eq_true q482
       go_wp2_with (first | (go_at_call 188; (with_reducible refine (impl_areDigests_1.calls (rdOf ByteArray.empty l0 x8_1) true _ A6.out).mono ?_); rintro e w' ⟨rfl, ⟨nd, rfl⟩⟩))
       go_ret
       exact ⟨by first | rfl | (simp; done) | (simp [*]; done) | (simp [bne]; done), by repeat (first | exact Drawn0.refl _ | apply Drawn0.step)⟩
      ·replace c7 := Bool.eq_false_iff.mpr c7
       subst c7
       have H1 : (slices_IndexFunc_impl_areDigests_1.l0 k1 l0 (l0.length : Int) (wrap64 (x8_1 + 1))) = some r := by rw [if_neg (show ¬ (false = true) by decide)] at H; exact H
       clear H
       have H := H1
       clear H1
       have H' := Aside0.mk H
       clear H
       have p482 : 0 ≤ (x8_1 : Int) := of_decide_eq_true (by first | (with_reducible assumption) | assumption)
       have q482 : x8_1 < (l0.length : Int) := of_decide_eq_true (by first | (with_reducible assumption) | assumption)
       obtain ⟨ad482, e482, hx482_0⟩ := Kd.at_string HR0.out x8_1 p482 q482
       cases e482
       replace p482 := eq_true p482
       replace q482 := eq_true q482
       go_wp2_with (first | (go_at_call 188; (with_reducible refine (impl_areDigests_1.calls (rdOf ByteArray.empty l0 x8_1) false _ A6.out).mono ?_); rintro e w' ⟨rfl, ⟨nd, rfl⟩⟩))
       go_roundg k1
       case measure => have := HK1.out; omega
       case rel => exact ⟨(wrap64 (x8_1 + 1)), (by first | rfl | (simp; done) | (simp [*]; done) | (simp [bne]; done)), H', ⟨by have := HK1.out; omega⟩, by repeat (first | exact Drawn0.refl _ | apply Drawn0.step)⟩
     ·rw [if_neg c5] at H
      exact absurd H (by simp)
    ·rw [if_neg c4] at H
     exact absurd H (by simp)
   ·rw [if_neg c3] at H
    have c3b0 : decide (x8_1 < (l0.length : Int)) = false := decide_eq_false c3
    clear c3
    obtain rfl := Option.some.inj H
    go_wp2
    go_ret
    exact ⟨by first | rfl | (simp; done) | (simp [*]; done) | (simp [bne]; done), by repeat (first | exact Drawn0.refl _ | apply Drawn0.step)⟩
def slices_ContainsFunc_impl_areDigests_1.f (k : Nat) (l0 : List ByteArray)  : Option (Bool) := (slices_IndexFunc_impl_areDigests_1.f k l0).bind fun t484 => (some (decide (t484 ≥ 0)))
set_option maxHeartbeats 8000000 in
set_option maxRecDepth 100000 in
theorem slices_ContainsFunc_impl_areDigests_1.calls (k : Nat) (A0 : Option Addr) (c0 : Nat) (l0 : List ByteArray)  (r : Bool) (w : World) (hr0 : Kd.C Kd.string w A0 l0.length l0) (hc0 : l0.length ≤ c0) (h : slices_ContainsFunc_impl_areDigests_1.f k l0 = some r) :
  Calls Try.prog 141 #[.slice A0 l0.length c0, .func (.func 188) #[] #[]] w fun e w' => e = .returned (.bool r) ∧ Drawn0 w w' := by
 have HR0 := Aside0.mk hr0
 have HC0 := Aside0.mk hc0
 clear hr0 hc0
 have H : ((slices_IndexFunc_impl_areDigests_1.f k l0).bind fun t484 => (some (decide (t484 ≥ 0)))) = some r := h
 clear h
 replace H := Option.bind_eq_some_iff.mp H
 obtain ⟨t484, A30, H⟩ := H
 replace H : (some (decide (t484 ≥ 0))) = some r := H
 have A3 := Aside0.mk A30
 clear A30
 obtain rfl := Option.some.inj H
 go_enter Try.func141, Try.ntmps141
 go_wp2_with (first | ((with_reducible refine gate_callee (f := 196) rfl ?_); refine goesL_ (some 7) rfl rfl Try.func196 (by kernel_rfl) rfl #[.slice A0 l0.length c0, .func (.func 188) #[] #[]] rfl (by (try simp only [List.map_toArray, List.map_cons, List.map_nil]); first | done | rfl | (simp only [List.length_drop, List.length_take]; rfl)) ?_; (with_reducible refine (slices_IndexFunc_impl_areDigests_1.calls k _ _ l0  t484 _ ?side1 ?side2 A3.out).mono ?_); (case side1 => repeat (first | exact HR0.out | (with_reducible refine Kd.C_alloc ?_ _) | (with_reducible refine Kd.C_drewN ?_ _) | (with_reducible refine Kd.C_drew ?_))); (case side2 => exact HC0.out); rintro e w' ⟨rfl, ⟨nd, rfl⟩⟩; refine ⟨_, rfl, ?_⟩))
 go_ret
 exact ⟨by first | rfl | (simp; done) | (simp [*]; done) | (simp [bne]; done), by repeat (first | exact Drawn0.refl _ | apply Drawn0.step)⟩
def impl_areDigests.f (k : Nat) (l0 : List ByteArray) (a1 : Int) : Option (Bool) := if (l0.length : Int) = a1 then ((slices_ContainsFunc_impl_areDigests_1.f k l0).bind fun t485 => (some (!t485))) else (some false)
set_option maxHeartbeats 8000000 in
set_option maxRecDepth 100000 in
theorem impl_areDigests.calls (k : Nat) (A0 : Option Addr) (c0 : Nat) (l0 : List ByteArray) (a1 : Int) (r : Bool) (w : World) (hr0 : Kd.C Kd.string w A0 l0.length l0) (hc0 : l0.length ≤ c0) (h : impl_areDigests.f k l0 a1 = some r) :
  Calls Try.prog 119 #[.slice A0 l0.length c0, .int .i64 a1] w fun e w' => e = .returned (.bool r) ∧ Drawn0 w w' := by
 have HR0 := Aside0.mk hr0
 have HC0 := Aside0.mk hc0
 clear hr0 hc0
 have H : (if (l0.length : Int) = a1 then ((slices_ContainsFunc_impl_areDigests_1.f k l0).bind fun t485 => (some (!t485))) else (some false)) = some r := h
 clear h
 by_cases c3 : (l0.length : Int) = a1
 ·rw [if_pos c3] at H
  have c3b0 : ((l0.length : Int) == a1) = true := beq_iff_eq.mpr c3
  have c3b1 : ((l0.length : Int) != a1) = false := bne_eq_false_iff_eq.mpr c3
  clear c3
  replace H := Option.bind_eq_some_iff.mp H
  obtain ⟨t485, A40, H⟩ := H
  replace H : (some (!t485)) = some r := H
  have A4 := Aside0.mk A40
  clear A40
  obtain rfl := Option.some.inj H
  go_enter Try.func119, Try.ntmps119
  go_wp2_with (first | (go_at_call 141; (with_reducible refine (slices_ContainsFunc_impl_areDigests_1.calls k _ _ l0  t485 _ ?side1 ?side2 A4.out).mono ?_); (case side1 => repeat (first | exact HR0.out | (with_reducible refine Kd.C_alloc ?_ _) | (with_reducible refine Kd.C_drewN ?_ _) | (with_reducible refine Kd.C_drew ?_))); (case side2 => exact HC0.out); rintro e w' ⟨rfl, ⟨nd, rfl⟩⟩))
  go_ret
  exact ⟨by first | rfl | (simp; done) | (simp [*]; done) | (simp [bne]; done), by repeat (first | exact Drawn0.refl _ | apply Drawn0.step)⟩
 ·rw [if_neg c3] at H
  have c3b0 : ((l0.length : Int) == a1) = false := beq_eq_false_iff_ne.mpr c3
  have c3b1 : ((l0.length : Int) != a1) = true := bne_iff_ne.mpr c3
  obtain rfl := Option.some.inj H
  go_enter Try.func119, Try.ntmps119
  go_wp2
  go_ret
  exact ⟨by first | rfl | (simp; done) | (simp [*]; done) | (simp [bne]; done), by repeat (first | exact Drawn0.refl _ | apply Drawn0.step)⟩
def impl_isSign.f (k : Nat) (a0 : ByteArray) (l1 : List ByteArray) : Option (Bool) := if (a0.size : Int) ≤ 200 then ((impl_areDigests.f k l1 11).bind fun t486 => (some t486)) else (some false)
set_option maxHeartbeats 8000000 in
set_option maxRecDepth 100000 in
theorem impl_isSign.calls (k : Nat) (a0 : ByteArray) (A1 : Option Addr) (c1 : Nat) (l1 : List ByteArray) (r : Bool) (w : World) (hr1 : Kd.C Kd.string w A1 l1.length l1) (hc1 : l1.length ≤ c1) (h : impl_isSign.f k a0 l1 = some r) :
  Calls Try.prog 118 #[.string a0, .slice A1 l1.length c1] w fun e w' => e = .returned (.bool r) ∧ Drawn0 w w' := by
 have HR1 := Aside0.mk hr1
 have HC1 := Aside0.mk hc1
 clear hr1 hc1
 have H : (if (a0.size : Int) ≤ 200 then ((impl_areDigests.f k l1 11).bind fun t486 => (some t486)) else (some false)) = some r := h
 clear h
 by_cases c3 : (a0.size : Int) ≤ 200
 ·rw [if_pos c3] at H
  have c3b0 : decide ((a0.size : Int) ≤ 200) = true := decide_eq_true c3
  have c3b1 : decide (a0.size ≤ 200) = true := decide_eq_true (by omega)
  clear c3
  replace H := Option.bind_eq_some_iff.mp H
  obtain ⟨t486, A40, H⟩ := H
  replace H : (some t486) = some r := H
  have A4 := Aside0.mk A40
  clear A40
  obtain rfl := Option.some.inj H
  go_enter Try.func118, Try.ntmps118
  go_wp2_with (first | (go_at_call 119; (with_reducible refine (impl_areDigests.calls k _ _ l1 11 t486 _ ?side1 ?side2 A4.out).mono ?_); (case side1 => repeat (first | exact HR1.out | (with_reducible refine Kd.C_alloc ?_ _) | (with_reducible refine Kd.C_drewN ?_ _) | (with_reducible refine Kd.C_drew ?_))); (case side2 => exact HC1.out); rintro e w' ⟨rfl, ⟨nd, rfl⟩⟩))
  go_ret
  exact ⟨by first | rfl | (simp; done) | (simp [*]; done) | (simp [bne]; done), by repeat (first | exact Drawn0.refl _ | apply Drawn0.step)⟩
 ·rw [if_neg c3] at H
  have c3b0 : decide ((a0.size : Int) ≤ 200) = false := decide_eq_false c3
  have c3b1 : decide (a0.size ≤ 200) = false := decide_eq_false (by omega)
  clear c3
  obtain rfl := Option.some.inj H
  go_enter Try.func118, Try.ntmps118
  go_wp2
  go_ret
  exact ⟨by first | rfl | (simp; done) | (simp [*]; done) | (simp [bne]; done), by repeat (first | exact Drawn0.refl _ | apply Drawn0.step)⟩
def impl_pair.f (k : Nat) (a0 : ByteArray) (a1 : ByteArray) : Option (ByteArray) := if a0.size + a1.size ≤ 9223372036854775807 then ((impl_digest.f k 116 (a0 ++ a1)).bind fun t487 => (some t487)) else (none)
set_option maxHeartbeats 8000000 in
set_option maxRecDepth 100000 in
theorem impl_pair.calls (k : Nat) (a0 : ByteArray) (a1 : ByteArray) (r : ByteArray) (w : World) (h : impl_pair.f k a0 a1 = some r) :
  Calls Try.prog 189 #[.string a0, .string a1] w fun e w' => e = .returned (.string r) ∧ Below w.heap.size w w' := by
 have HB := Aside0.mk (Below.refl w.heap.size w)
 have H : (if a0.size + a1.size ≤ 9223372036854775807 then ((impl_digest.f k 116 (a0 ++ a1)).bind fun t487 => (some t487)) else (none)) = some r := h
 clear h
 by_cases c3 : a0.size + a1.size ≤ 9223372036854775807
 ·rw [if_pos c3] at H
  have c3b0 := eq_true c3
  have c3b1 : decide (a0.size + a1.size ≤ 9223372036854775807) = true := decide_eq_true c3
  try have c3b2 : (9223372036854775807 < a0.size + a1.size) = False := eq_false (Nat.not_lt.2 c3)
  replace H := Option.bind_eq_some_iff.mp H
  obtain ⟨t487, A40, H⟩ := H
  replace H : (some t487) = some r := H
  have A4 := Aside0.mk A40
  clear A40
  obtain rfl := Option.some.inj H
  go_enter Try.func189, Try.ntmps189
  go_wp2_with (first | ((with_reducible refine gate_callee (f := 181) rfl ?_); refine goesL_ (some 8) rfl rfl Try.func181 (by kernel_rfl) rfl #[.int .u8 116, .string (a0 ++ a1)] rfl (by (try simp only [List.map_toArray, List.map_cons, List.map_nil]); first | done | rfl | (simp only [List.length_drop, List.length_take]; rfl)) ?_; (with_reducible refine (impl_digest.calls k 116 (a0 ++ a1) t487 _ A4.out).mono ?_); rintro e w5 ⟨rfl, hb⟩; refine ⟨_, rfl, ?_⟩; have n0_ := Aside0.mk (below_step (by repeat (first | (with_reducible first | exact HB.out | apply below_alloc | apply pw_below_drewN | apply below_drew1) | exact HB.out)) hb); clear HB; have HB := n0_; clear n0_; (try clear hb); (try clear hb2); (try clear hk); (try clear hi)))
  go_ret
  exact ⟨by first | rfl | (simp [errW_none, errW_some] <;> rfl) | (simp [*, errW_none, errW_some] <;> rfl), by repeat (first | (with_reducible first | exact HB.out | apply below_alloc | apply pw_below_drewN | apply below_drew1) | exact HB.out)⟩
 ·rw [if_neg c3] at H
  exact absurd H (by simp)
def impl_topFrom.l0 : Nat → Int → ByteArray → List ByteArray → Int → Int → Option (ByteArray)
 | 0, _, _, _, _, _ => none
 | k + 1, x0, x1, x9, x10, x11 => if x11 < x10 then (if 0 ≤ x11 then (if x11 < (x9.length : Int) then (if (Int.tmod x0 2) = 0 then ((impl_pair.f k x1 (rdOf ByteArray.empty x9 x11)).bind fun t489 => (impl_topFrom.l0 k (wrap64 (Int.tdiv x0 2)) t489 x9 x10 (wrap64 (x11 + 1)))) else ((impl_pair.f k (rdOf ByteArray.empty x9 x11) x1).bind fun t490 => (impl_topFrom.l0 k (wrap64 (Int.tdiv x0 2)) t490 x9 x10 (wrap64 (x11 + 1))))) else (none)) else (none)) else (some x1)
def impl_topFrom.f (k : Nat) (a0 : Int) (a1 : ByteArray) (l2 : List ByteArray) : Option (ByteArray) := impl_topFrom.l0 k a0 a1 l2 (l2.length : Int) 0
set_option maxHeartbeats 8000000 in
set_option maxRecDepth 100000 in
theorem impl_topFrom.calls (k : Nat) (a0 : Int) (a1 : ByteArray) (A2 : Option Addr) (c2 : Nat) (l2 : List ByteArray) (r : ByteArray) (w : World) (hr2 : Kd.C Kd.string w A2 l2.length l2) (hc2 : l2.length ≤ c2) (h : impl_topFrom.f k a0 a1 l2 = some r) :
  Calls Try.prog 120 #[.int .i64 a0, .string a1, .slice A2 l2.length c2] w fun e w' => e = .returned (.string r) ∧ Below w.heap.size w w' := by
 have HR2 := Aside0.mk hr2
 have HC2 := Aside0.mk hc2
 clear hr2 hc2
 have HB := Aside0.mk (Below.refl w.heap.size w)
 have H : (impl_topFrom.l0 k a0 a1 l2 (l2.length : Int) 0) = some r := h
 clear h
 have H' := Aside0.mk H
 clear H
 go_enter Try.func120, Try.ntmps120
 go_wp2
 go_loopg [0, 1, 11] k (fun kq v0 v1 v11 w' => ∃ (x0_1 : Int) (x1_1 : ByteArray) (x11_1 : Int), v0 = .int .i64 x0_1 ∧ v1 = .string x1_1 ∧ v11 = .int .i64 x11_1 ∧ Aside0 (impl_topFrom.l0 kq x0_1 x1_1 l2 (l2.length : Int) x11_1 = some r) ∧ Aside0 (kq ≤ k) ∧ Aside0 (Below w.heap.size w w'))
 case atStart => exact ⟨(a0), (a1), (0), (by first | rfl | (simp; done) | (simp [*]; done) | (simp [bne]; done)), (by first | rfl | (simp; done) | (simp [*]; done) | (simp [bne]; done)), (by first | rfl | (simp; done) | (simp [*]; done) | (simp [bne]; done)), H', ⟨Nat.le_refl _⟩, ⟨by repeat (first | (with_reducible first | exact HB.out | apply below_alloc | apply pw_below_drewN | apply below_drew1) | exact HB.out)⟩⟩
 case round =>
  clear H'
  try clear c1
  try clear c2
  try clear p2
  obtain ⟨x0_1, x1_1, x11_1, rfl, rfl, rfl, HA, HK1, HB⟩ := hrel
  cases gk with
  | zero => exact absurd HA.out (by simp [impl_topFrom.l0])
  | succ k1 =>
   have H := HA.out
   clear HA
   simp only [impl_topFrom.l0] at H
   by_cases c4 : x11_1 < (l2.length : Int)
   ·rw [if_pos c4] at H
    have c4b0 : decide (x11_1 < (l2.length : Int)) = true := decide_eq_true c4
    clear c4
    by_cases c5 : 0 ≤ x11_1
    ·rw [if_pos c5] at H
     have c5b0 : decide (0 ≤ x11_1) = true := decide_eq_true c5
     clear c5
     by_cases c6 : x11_1 < (l2.length : Int)
     ·rw [if_pos c6] at H
      have c6b0 : decide (x11_1 < (l2.length : Int)) = true := decide_eq_true c6
      clear c6
      by_cases c7 : (Int.tmod x0_1 2) = 0
      ·rw [if_pos c7] at H
       have c7b0 : ((Int.tmod x0_1 2) == 0) = true := beq_iff_eq.mpr c7
       have c7b1 : ((Int.tmod x0_1 2) != 0) = false := bne_eq_false_iff_eq.mpr c7
       clear c7
       replace H := Option.bind_eq_some_iff.mp H
       obtain ⟨t489, A80, H⟩ := H
       replace H : (impl_topFrom.l0 k1 (wrap64 (Int.tdiv x0_1 2)) t489 l2 (l2.length : Int) (wrap64 (x11_1 + 1))) = some r := H
       have A8 := Aside0.mk A80
       clear A80
       have H' := Aside0.mk H
       clear H
       have p488 : 0 ≤ (x11_1 : Int) := of_decide_eq_true (by first | (with_reducible assumption) | assumption)
       have q488 : x11_1 < (l2.length : Int) := of_decide_eq_true (by first | (with_reducible assumption) | assumption)
       obtain ⟨ad488, e488, hx488_0⟩ := Kd.at_string HR2.out x11_1 p488 q488
       cases e488
       replace hx488_0 := (HB.out.cell (World.block_lt_of_cell? w _ hx488_0)).trans hx488_0
       replace p488 := eq_true p488
       replace q488 := eq_true q488
       go_wp2_with (first | ((with_reducible refine gate_callee (f := 189) rfl ?_); refine goesL_ (some 20) rfl rfl Try.func189 (by kernel_rfl) rfl #[.string x1_1, .string (rdOf ByteArray.empty l2 x11_1)] rfl (by (try simp only [List.map_toArray, List.map_cons, List.map_nil]); first | done | rfl | (simp only [List.length_drop, List.length_take]; rfl)) ?_; (with_reducible refine (impl_pair.calls k1 x1_1 (rdOf ByteArray.empty l2 x11_1) t489 _ A8.out).mono ?_); rintro e w9 ⟨rfl, hb⟩; refine ⟨_, rfl, ?_⟩; have n0_ := Aside0.mk (below_step (by repeat (first | (with_reducible first | exact HB.out | apply below_alloc | apply pw_below_drewN | apply below_drew1) | exact HB.out)) hb); clear HB; have HB := n0_; clear n0_; (try clear hb); (try clear hb2); (try clear hk); (try clear hi)))
       go_roundg k1
       case measure => have := HK1.out; omega
       case rel => exact ⟨(wrap64 (Int.tdiv x0_1 2)), (t489), (wrap64 (x11_1 + 1)), (by first | rfl | (simp; done) | (simp [*]; done) | (simp [bne]; done)), (by first | rfl | (simp; done) | (simp [*]; done) | (simp [bne]; done)), (by first | rfl | (simp; done) | (simp [*]; done) | (simp [bne]; done)), H', ⟨by have := HK1.out; omega⟩, ⟨by repeat (first | (with_reducible first | exact HB.out | apply below_alloc | apply pw_below_drewN | apply below_drew1) | exact HB.out)⟩⟩
      ·rw [if_neg c7] at H
       have c7b0 : ((Int.tmod x0_1 2) == 0) = false := beq_eq_false_iff_ne.mpr c7
       have c7b1 : ((Int.tmod x0_1 2) != 0) = true := bne_iff_ne.mpr c7
       replace H := Option.bind_eq_some_iff.mp H
       obtain ⟨t490, A100, H⟩ := H
       replace H : (impl_topFrom.l0 k1 (wrap64 (Int.tdiv x0_1 2)) t490 l2 (l2.length : Int) (wrap64 (x11_1 + 1))) = some r := H
       have A10 := Aside0.mk A100
       clear A100
       have H' := Aside0.mk H
       clear H
       have p488 : 0 ≤ (x11_1 : Int) := of_decide_eq_true (by first | (with_reducible assumption) | assumption)
       have q488 : x11_1 < (l2.length : Int) := of_decide_eq_true (by first | (with_reducible assumption) | assumption)
       obtain ⟨ad488, e488, hx488_0⟩ := Kd.at_string HR2.out x11_1 p488 q488
       cases e488
       replace hx488_0 := (HB.out.cell (World.block_lt_of_cell? w _ hx488_0)).trans hx488_0
       replace p488 := eq_true p488
       replace q488 := eq_true q488
       go_wp2_with (first | ((with_reducible refine gate_callee (f := 189) rfl ?_); refine goesL_ (some 23) rfl rfl Try.func189 (by kernel_rfl) rfl #[.string (rdOf ByteArray.empty l2 x11_1), .string x1_1] rfl (by (try simp only [List.map_toArray, List.map_cons, List.map_nil]); first | done | rfl | (simp only [List.length_drop, List.length_take]; rfl)) ?_; (with_reducible refine (impl_pair.calls k1 (rdOf ByteArray.empty l2 x11_1) x1_1 t490 _ A10.out).mono ?_); rintro e w11 ⟨rfl, hb⟩; refine ⟨_, rfl, ?_⟩; have n0_ := Aside0.mk (below_step (by repeat (first | (with_reducible first | exact HB.out | apply below_alloc | apply pw_below_drewN | apply below_drew1) | exact HB.out)) hb); clear HB; have HB := n0_; clear n0_; (try clear hb); (try clear hb2); (try clear hk); (try clear hi)))
       go_roundg k1
       case measure => have := HK1.out; omega
       case rel => exact ⟨(wrap64 (Int.tdiv x0_1 2)), (t490), (wrap64 (x11_1 + 1)), (by first | rfl | (simp; done) | (simp [*]; done) | (simp [bne]; done)), (by first | rfl | (simp; done) | (simp [*]; done) | (simp [bne]; done)), (by first | rfl | (simp; done) | (simp [*]; done) | (simp [bne]; done)), H', ⟨by have := HK1.out; omega⟩, ⟨by repeat (first | (with_reducible first | exact HB.out | apply below_alloc | apply pw_below_drewN | apply below_drew1) | exact HB.out)⟩⟩
     ·rw [if_neg c6] at H
      exact absurd H (by simp)
    ·rw [if_neg c5] at H
     exact absurd H (by simp)
   ·rw [if_neg c4] at H
    have c4b0 : decide (x11_1 < (l2.length : Int)) = false := decide_eq_false c4
    clear c4
    obtain rfl := Option.some.inj H
    go_wp2
    go_ret
    exact ⟨by first | rfl | (simp [errW_none, errW_some] <;> rfl) | (simp [*, errW_none, errW_some] <;> rfl), by repeat (first | (with_reducible first | exact HB.out | apply below_alloc | apply pw_below_drewN | apply below_drew1) | exact HB.out)⟩
def impl_publicFrom.l0 : Nat → List ByteArray → ByteArray → List Int → Int → Int → Option (ByteArray)
 | 0, _, _, _, _, _ => none
 | k + 1, x1, x5, x9, x10, x11 => if x11 < x10 then (if 0 ≤ x11 then (if x11 < (x9.length : Int) then (if x11 < (x1.length : Int) then ((impl_chain.f k (rdOf ByteArray.empty x1 x11) (rd x9 x11) (wrap64 (15 - (rd x9 x11)))).bind fun t496 => (if x5.size + t496.size ≤ 9223372036854775807 then (impl_publicFrom.l0 k x1 (x5 ++ t496) x9 x10 (wrap64 (x11 + 1))) else (none))) else (none)) else (none)) else (none)) else ((impl_digest.f k 112 x5).bind fun t497 => (some t497))
def impl_publicFrom.f (k : Nat) (a0 : ByteArray) (l1 : List ByteArray) : Option (ByteArray) := (impl_digits.f k a0).bind fun t491 => (impl_publicFrom.l0 k l1 (⟨#[]⟩ : ByteArray) t491 (t491.length : Int) 0)
set_option maxHeartbeats 8000000 in
set_option maxRecDepth 100000 in
theorem impl_publicFrom.calls (k : Nat) (a0 : ByteArray) (A1 : Option Addr) (c1 : Nat) (l1 : List ByteArray) (r : ByteArray) (w : World) (hr1 : Kd.C Kd.string w A1 l1.length l1) (hc1 : l1.length ≤ c1) (h : impl_publicFrom.f k a0 l1 = some r) :
  Calls Try.prog 121 #[.string a0, .slice A1 l1.length c1] w fun e w' => e = .returned (.string r) ∧ Below w.heap.size w w' := by
 have HR1 := Aside0.mk hr1
 have HC1 := Aside0.mk hc1
 clear hr1 hc1
 have HB := Aside0.mk (Below.refl w.heap.size w)
 have H : ((impl_digits.f k a0).bind fun t491 => (impl_publicFrom.l0 k l1 (⟨#[]⟩ : ByteArray) t491 (t491.length : Int) 0)) = some r := h
 clear h
 replace H := Option.bind_eq_some_iff.mp H
 obtain ⟨t491, A30, H⟩ := H
 replace H : (impl_publicFrom.l0 k l1 (⟨#[]⟩ : ByteArray) t491 (t491.length : Int) 0) = some r := H
 have A3 := Aside0.mk A30
 clear A30
 have H' := Aside0.mk H
 clear H
 go_enter Try.func121, Try.ntmps121
 go_wp2_with (first | ((with_reducible refine gate_callee (f := 97) rfl ?_); refine goesL_ (some 9) rfl rfl Try.func97 (by kernel_rfl) rfl #[.string a0] rfl (by (try simp only [List.map_toArray, List.map_cons, List.map_nil]); first | done | rfl | (simp only [List.length_drop, List.length_take]; rfl)) ?_; (with_reducible refine (impl_digits.calls k a0 t491 _ A3.out).mono ?_); rintro e w4 ⟨v492, rfl, ho0, hb⟩; refine ⟨_, rfl, ?_⟩; have n0_ := Aside0.mk (Kd.R_lower ho0 (below_size (by repeat (first | (with_reducible first | exact HB.out | apply below_alloc | apply pw_below_drewN | apply below_drew1) | exact HB.out)))); have n1_ := Aside0.mk (below_step (by repeat (first | (with_reducible first | exact HB.out | apply below_alloc | apply pw_below_drewN | apply below_drew1) | exact HB.out)) hb); clear HB; have HO493 := n0_; have HB := n1_; clear n0_ n1_; (try clear hb); (try clear hb2); (try clear hk); (try clear hi); (try clear ho0); obtain ⟨Ao5, co5, eo5⟩ := Kd.R_slice HO493.out; subst eo5))
 go_loopg [5, 11] k (fun kq v5 v11 w' => ∃ (x5_1 : ByteArray) (x11_1 : Int), v5 = .string x5_1 ∧ v11 = .int .i64 x11_1 ∧ Aside0 (impl_publicFrom.l0 kq l1 x5_1 t491 (t491.length : Int) x11_1 = some r) ∧ Aside0 (kq ≤ k) ∧ Aside0 (Kd.R (Kd.int .i64) 3 w' w.heap.size (fun _ => True) (.slice Ao5 t491.length co5) t491) ∧ Aside0 (Below w.heap.size w w'))
 case atStart => exact ⟨((⟨#[]⟩ : ByteArray)), (0), (by first | rfl | (simp; done) | (simp [*]; done) | (simp [bne]; done)), (by first | rfl | (simp; done) | (simp [*]; done) | (simp [bne]; done)), H', ⟨Nat.le_refl _⟩, ⟨by (with_reducible repeat (first | apply Kd.R_alloc | apply Kd.R_drewN | apply Kd.R_drew)); exact HO493.out⟩, ⟨by repeat (first | (with_reducible first | exact HB.out | apply below_alloc | apply pw_below_drewN | apply below_drew1) | exact HB.out)⟩⟩
 case round =>
  clear H'
  try clear c1
  try clear p2
  obtain ⟨x5_1, x11_1, rfl, rfl, HA, HK1, HO_9, HB⟩ := hrel
  cases gk with
  | zero => exact absurd HA.out (by simp [impl_publicFrom.l0])
  | succ k1 =>
   have H := HA.out
   clear HA
   simp only [impl_publicFrom.l0] at H
   by_cases c6 : x11_1 < (t491.length : Int)
   ·rw [if_pos c6] at H
    have c6b0 : decide (x11_1 < (t491.length : Int)) = true := decide_eq_true c6
    clear c6
    by_cases c7 : 0 ≤ x11_1
    ·rw [if_pos c7] at H
     have c7b0 : decide (0 ≤ x11_1) = true := decide_eq_true c7
     clear c7
     by_cases c8 : x11_1 < (t491.length : Int)
     ·rw [if_pos c8] at H
      have c8b0 : decide (x11_1 < (t491.length : Int)) = true := decide_eq_true c8
      clear c8
      by_cases c9 : x11_1 < (l1.length : Int)
      ·rw [if_pos c9] at H
       have c9b0 : decide (x11_1 < (l1.length : Int)) = true := decide_eq_true c9
       clear c9
       replace H := Option.bind_eq_some_iff.mp H
       obtain ⟨t496, A100, H⟩ := H
       replace H : (if x5_1.size + t496.size ≤ 9223372036854775807 then (impl_publicFrom.l0 k1 l1 (x5_1 ++ t496) t491 (t491.length : Int) (wrap64 (x11_1 + 1))) else (none)) = some r := H
       have A10 := Aside0.mk A100
       clear A100
       by_cases c11 : x5_1.size + t496.size ≤ 9223372036854775807
       ·rw [if_pos c11] at H
        have c11b0 := eq_true c11
        have c11b1 : decide (x5_1.size + t496.size ≤ 9223372036854775807) = true := decide_eq_true c11
        try have c11b2 : (9223372036854775807 < x5_1.size + t496.size) = False := eq_false (Nat.not_lt.2 c11)
        have H' := Aside0.mk H
        clear H
        have p494 : 0 ≤ (x11_1 : Int) := of_decide_eq_true (by first | (with_reducible assumption) | assumption)
        have q494 : x11_1 < (t491.length : Int) := of_decide_eq_true (by first | (with_reducible assumption) | assumption)
        obtain ⟨ad494, e494, hx494_0⟩ := Kd.at_int (Kd.R_reads' HO_9.out).2.2 x11_1 p494 q494
        cases e494
        replace p494 := eq_true p494
        replace q494 := eq_true q494
        have p495 : 0 ≤ (x11_1 : Int) := of_decide_eq_true (by first | (with_reducible assumption) | assumption)
        have q495 : x11_1 < (l1.length : Int) := of_decide_eq_true (by first | (with_reducible assumption) | assumption)
        obtain ⟨ad495, e495, hx495_0⟩ := Kd.at_string HR1.out x11_1 p495 q495
        cases e495
        replace hx495_0 := (HB.out.cell (World.block_lt_of_cell? w _ hx495_0)).trans hx495_0
        replace p495 := eq_true p495
        replace q495 := eq_true q495
        go_wp2_with (first | ((with_reducible refine gate_callee (f := 105) rfl ?_); refine goesL_ (some 24) rfl rfl Try.func105 (by kernel_rfl) rfl #[.string (rdOf ByteArray.empty l1 x11_1), .int .i64 (rd t491 x11_1), .int .i64 (wrap64 (15 - (rd t491 x11_1)))] rfl (by (try simp only [List.map_toArray, List.map_cons, List.map_nil]); first | done | rfl | (simp only [List.length_drop, List.length_take]; rfl)) ?_; (with_reducible refine (impl_chain.calls k1 (rdOf ByteArray.empty l1 x11_1) (rd t491 x11_1) (wrap64 (15 - (rd t491 x11_1))) t496 _ A10.out).mono ?_); rintro e w12 ⟨rfl, hb⟩; refine ⟨_, rfl, ?_⟩; have n0_ := Aside0.mk (Kd.R_below (by (with_reducible repeat (first | apply Kd.R_alloc | apply Kd.R_drewN | apply Kd.R_drew)); exact HO_9.out) hb); have n1_ := Aside0.mk (below_step (by repeat (first | (with_reducible first | exact HB.out | apply below_alloc | apply pw_below_drewN | apply below_drew1) | exact HB.out)) hb); clear HO_9; clear HB; have HO_9 := n0_; have HB := n1_; clear n0_ n1_; (try clear hb); (try clear hb2); (try clear hk); (try clear hi)))
        go_roundg k1
        case measure => have := HK1.out; omega
        case rel => exact ⟨(x5_1 ++ t496), (wrap64 (x11_1 + 1)), (by first | rfl | (simp; done) | (simp [*]; done) | (simp [bne]; done)), (by first | rfl | (simp; done) | (simp [*]; done) | (simp [bne]; done)), H', ⟨by have := HK1.out; omega⟩, ⟨by (with_reducible repeat (first | apply Kd.R_alloc | apply Kd.R_drewN | apply Kd.R_drew)); exact HO_9.out⟩, ⟨by repeat (first | (with_reducible first | exact HB.out | apply below_alloc | apply pw_below_drewN | apply below_drew1) | exact HB.out)⟩⟩
       ·rw [if_neg c11] at H
        exact absurd H (by simp)
      ·rw [if_neg c9] at H
       exact absurd H (by simp)
     ·rw [if_neg c8] at H
      exact absurd H (by simp)
    ·rw [if_neg c7] at H
     exact absurd H (by simp)
   ·rw [if_neg c6] at H
    have c6b0 : decide (x11_1 < (t491.length : Int)) = false := decide_eq_false c6
    clear c6
    replace H := Option.bind_eq_some_iff.mp H
    obtain ⟨t497, A130, H⟩ := H
    replace H : (some t497) = some r := H
    have A13 := Aside0.mk A130
    clear A130
    obtain rfl := Option.some.inj H
    go_wp2_with (first | ((with_reducible refine gate_callee (f := 181) rfl ?_); refine goesL_ (some 28) rfl rfl Try.func181 (by kernel_rfl) rfl #[.int .u8 112, .string x5_1] rfl (by (try simp only [List.map_toArray, List.map_cons, List.map_nil]); first | done | rfl | (simp only [List.length_drop, List.length_take]; rfl)) ?_; (with_reducible refine (impl_digest.calls k1 112 x5_1 t497 _ A13.out).mono ?_); rintro e w14 ⟨rfl, hb⟩; refine ⟨_, rfl, ?_⟩; have n0_ := Aside0.mk (Kd.R_below (by (with_reducible repeat (first | apply Kd.R_alloc | apply Kd.R_drewN | apply Kd.R_drew)); exact HO_9.out) hb); have n1_ := Aside0.mk (below_step (by repeat (first | (with_reducible first | exact HB.out | apply below_alloc | apply pw_below_drewN | apply below_drew1) | exact HB.out)) hb); clear HO_9; clear HB; have HO_9 := n0_; have HB := n1_; clear n0_ n1_; (try clear hb); (try clear hb2); (try clear hk); (try clear hi)))
    go_ret
    exact ⟨by first | rfl | (simp [errW_none, errW_some] <;> rfl) | (simp [*, errW_none, errW_some] <;> rfl), by repeat (first | (with_reducible first | exact HB.out | apply below_alloc | apply pw_below_drewN | apply below_drew1) | exact HB.out)⟩
end Go.Proofs.Ytfajabboibcgpaa.PA
end
section
namespace Go.Proofs.Ytfajabboibcgpaa.PA
open Go.RowKit Go.Proofs.YtfajabboibcgpaaW.PrintWords Go.Proofs.YtfajabboibcgpaaW.PrintLast Go.Proofs.YtfajabboibcgpaaW.PrintMore
attribute [local go_sem] max2_int min2_int max_two min_two max_three min_three max_four min_four   -- for this text's walks alone
set_option linter.unusedVariables false
set_option linter.unusedSimpArgs false
def impl_CheckSeal.j0 : Nat → ByteArray → ByteArray → Bool → Int → List ByteArray → List ByteArray → Option (Bool × Bool)
 | 0, _, _, _, _, _, _ => none
 | k + 1, x0, x1, x29, x499000, x499001, x499002 => if x29 = true then (some (false, false)) else ((impl_publicFrom.f k x1 x499001).bind fun t503 => ((impl_topFrom.f k x499000 t503 x499002).bind fun t504 => (some ((t504.toList == x0.toList), true))))
def impl_CheckSeal.f (k : Nat) (a0 : ByteArray) (a1 : ByteArray) (a2_0 : Int) (l2_1 : List ByteArray) (l2_2 : List ByteArray) : Option (Bool × Bool) := (impl_isDigest.f a0).bind fun t499 => (if t499 = true then ((impl_isUse.f a2_0).bind fun t500 => (if t500 = true then ((impl_isSign.f k a1 l2_1).bind fun t501 => (if t501 = true then ((impl_areDigests.f k l2_2 3).bind fun t502 => (impl_CheckSeal.j0 k a0 a1 (!t502) a2_0 l2_1 l2_2)) else (impl_CheckSeal.j0 k a0 a1 true a2_0 l2_1 l2_2))) else (impl_CheckSeal.j0 k a0 a1 true a2_0 l2_1 l2_2))) else (impl_CheckSeal.j0 k a0 a1 true a2_0 l2_1 l2_2))
def impl_CheckSeal.T3 : Bool × List (List Nat × List Nat) := (true, [([], []), ([0], [0]), ([], []), ([], []), ([3], [3]), ([2, 4], [2, 4]), ([], []), ([6], [6]), ([1, 5, 7, 5], [1, 5, 7]), ([], []), ([8, 9], [8, 9]), ([10, 8, 0, 1, 2, 3, 4, 5, 6, 7, 8, 9, 10], [10]), ([11, 0, 1, 2, 3, 4, 5, 6, 7, 8, 9, 10, 11], [])])
def impl_CheckSeal.B3 : List Nat := [0, 1, 0, 0, 8, 28, 0, 64, 255, 0, 1023, 2047, 4095]
theorem impl_CheckSeal.tab3 : rtab .any (opsOf Try.f34 3) = impl_CheckSeal.T3 := by kernel_rfl
theorem impl_CheckSeal.bits3 : waitsOk impl_CheckSeal.T3.2 impl_CheckSeal.B3 = true := by kernel_rfl
set_option maxHeartbeats 8000000 in
set_option maxRecDepth 100000 in
theorem impl_CheckSeal.calls (k : Nat) (a0 : ByteArray) (a1 : ByteArray) (a2_0 : Int) (A2_1 : Option Addr) (c2_1 : Nat) (l2_1 : List ByteArray) (A2_2 : Option Addr) (c2_2 : Nat) (l2_2 : List ByteArray) (r1 : Bool) (r2 : Bool) (w : World) (hr2_1 : Kd.C Kd.string w A2_1 l2_1.length l2_1) (hc2_1 : l2_1.length ≤ c2_1) (hr2_2 : Kd.C Kd.string w A2_2 l2_2.length l2_2) (hc2_2 : l2_2.length ≤ c2_2) (h : impl_CheckSeal.f k a0 a1 a2_0 l2_1 l2_2 = some (r1, r2)) :
  Calls Try.prog 34 #[.string a0, .string a1, .agg #[.int .i64 a2_0, .slice A2_1 l2_1.length c2_1, .slice A2_2 l2_2.length c2_2]] w fun e w' => e = .returned (.tuple #[.bool r1, .bool r2]) ∧ Below w.heap.size w w' := by
 have hu50 := Try.underlying50
 have HR2_1 := Aside0.mk hr2_1
 have HC2_1 := Aside0.mk hc2_1
 clear hr2_1 hc2_1
 have HR2_2 := Aside0.mk hr2_2
 have HC2_2 := Aside0.mk hc2_2
 clear hr2_2 hc2_2
 have HB := Aside0.mk (Below.refl w.heap.size w)
 have H : ((impl_isDigest.f a0).bind fun t499 => (if t499 = true then ((impl_isUse.f a2_0).bind fun t500 => (if t500 = true then ((impl_isSign.f k a1 l2_1).bind fun t501 => (if t501 = true then ((impl_areDigests.f k l2_2 3).bind fun t502 => (impl_CheckSeal.j0 k a0 a1 (!t502) a2_0 l2_1 l2_2)) else (impl_CheckSeal.j0 k a0 a1 true a2_0 l2_1 l2_2))) else (impl_CheckSeal.j0 k a0 a1 true a2_0 l2_1 l2_2))) else (impl_CheckSeal.j0 k a0 a1 true a2_0 l2_1 l2_2))) = some (r1, r2) := h
 clear h
 have HC4 := Aside0.mk H
 clear H
 go_enter Try.func34, Try.ntmps34
 go_upto_region 1 with (first | ((with_reducible refine gate_dst (N := 5) rfl ?_); refine box_event ?hg (N := 5) ?hd (cs := #[.int .i64 a2_0, .slice A2_1 l2_1.length c2_1, .slice A2_2 l2_2.length c2_2]) (t := 50) ?hr ?_; (case hd => rfl); (case hg => rfl); (case hr => first | (go_simp; done) | (go_simp; rfl)); intro gb498 hg w5 hbox hb; have n0_ := Aside0.mk (below_step (by repeat (first | (with_reducible first | exact HB.out | apply below_alloc | apply pw_below_drewN | apply below_drew1) | exact HB.out)) hb); have n1_ := Aside0.mk (hbox); have n2_ := Aside0.mk ((by rw [hg]; exact (below_size (by repeat (first | (with_reducible first | exact HB.out | apply below_alloc | apply pw_below_drewN | apply below_drew1) | exact HB.out))) : w.heap.size ≤ gb498)); have n3_ := Aside0.mk ((by rw [hg]; exact (below_size (by repeat (first | (with_reducible first | exact HB.out | apply below_alloc | apply pw_below_drewN | apply below_drew1) | exact HB.out))) : w.heap.size ≤ gb498)); clear HB; have HB := n0_; have BK498 := n1_; have GW498 := n2_; have GE498 := n3_; clear n0_ n1_ n2_ n3_; clear hb hbox hg))
 (try simp only [Act.put, List.setIfInBounds_toArray, List.set_cons_zero, List.set_cons_succ])
 go_cut [29] (fun v29 wc => ∃ (kq : Nat) (x29_3 : Bool), v29 = .bool x29_3 ∧ Aside0 (impl_CheckSeal.j0 kq a0 a1 x29_3 a2_0 l2_1 l2_2 = some (r1, r2)) ∧ Aside0 (kq ≤ k) ∧ Aside0 (wc.heap[gb498]? = some (.cells #[.int .i64 a2_0, (.slice A2_1 l2_1.length c2_1), (.slice A2_2 l2_2.length c2_2)] 50 (0, 0))) ∧ Aside0 (Below w.heap.size w wc))
 case first =>
  have H := HC4.out
  clear HC4
  replace H := Option.bind_eq_some_iff.mp H
  obtain ⟨t499, A60, H⟩ := H
  replace H : (if t499 = true then ((impl_isUse.f a2_0).bind fun t500 => (if t500 = true then ((impl_isSign.f k a1 l2_1).bind fun t501 => (if t501 = true then ((impl_areDigests.f k l2_2 3).bind fun t502 => (impl_CheckSeal.j0 k a0 a1 (!t502) a2_0 l2_1 l2_2)) else (impl_CheckSeal.j0 k a0 a1 true a2_0 l2_1 l2_2))) else (impl_CheckSeal.j0 k a0 a1 true a2_0 l2_1 l2_2))) else (impl_CheckSeal.j0 k a0 a1 true a2_0 l2_1 l2_2)) = some (r1, r2) := H
  have A6 := Aside0.mk A60
  clear A60
  by_cases c7 : t499 = true
  ·subst c7
   have H1 : ((impl_isUse.f a2_0).bind fun t500 => (if t500 = true then ((impl_isSign.f k a1 l2_1).bind fun t501 => (if t501 = true then ((impl_areDigests.f k l2_2 3).bind fun t502 => (impl_CheckSeal.j0 k a0 a1 (!t502) a2_0 l2_1 l2_2)) else (impl_CheckSeal.j0 k a0 a1 true a2_0 l2_1 l2_2))) else (impl_CheckSeal.j0 k a0 a1 true a2_0 l2_1 l2_2))) = some (r1, r2) := by rw [if_pos rfl] at H; exact H
   clear H
   have H := H1
   clear H1
   replace H := Option.bind_eq_some_iff.mp H
   obtain ⟨t500, A80, H⟩ := H
   replace H : (if t500 = true then ((impl_isSign.f k a1 l2_1).bind fun t501 => (if t501 = true then ((impl_areDigests.f k l2_2 3).bind fun t502 => (impl_CheckSeal.j0 k a0 a1 (!t502) a2_0 l2_1 l2_2)) else (impl_CheckSeal.j0 k a0 a1 true a2_0 l2_1 l2_2))) else (impl_CheckSeal.j0 k a0 a1 true a2_0 l2_1 l2_2)) = some (r1, r2) := H
   have A8 := Aside0.mk A80
   clear A80
   by_cases c9 : t500 = true
   ·subst c9
    have H1 : ((impl_isSign.f k a1 l2_1).bind fun t501 => (if t501 = true then ((impl_areDigests.f k l2_2 3).bind fun t502 => (impl_CheckSeal.j0 k a0 a1 (!t502) a2_0 l2_1 l2_2)) else (impl_CheckSeal.j0 k a0 a1 true a2_0 l2_1 l2_2))) = some (r1, r2) := by rw [if_pos rfl] at H; exact H
    clear H
    have H := H1
    clear H1
    replace H := Option.bind_eq_some_iff.mp H
    obtain ⟨t501, A100, H⟩ := H
    replace H : (if t501 = true then ((impl_areDigests.f k l2_2 3).bind fun t502 => (impl_CheckSeal.j0 k a0 a1 (!t502) a2_0 l2_1 l2_2)) else (impl_CheckSeal.j0 k a0 a1 true a2_0 l2_1 l2_2)) = some (r1, r2) := H
    have A10 := Aside0.mk A100
    clear A100
    by_cases c11 : t501 = true
    ·subst c11
     have H1 : ((impl_areDigests.f k l2_2 3).bind fun t502 => (impl_CheckSeal.j0 k a0 a1 (!t502) a2_0 l2_1 l2_2)) = some (r1, r2) := by rw [if_pos rfl] at H; exact H
     clear H
     have H := H1
     clear H1
     replace H := Option.bind_eq_some_iff.mp H
     obtain ⟨t502, A120, H⟩ := H
     replace H : (impl_CheckSeal.j0 k a0 a1 (!t502) a2_0 l2_1 l2_2) = some (r1, r2) := H
     have A12 := Aside0.mk A120
     clear A120
     have H' := Aside0.mk H
     clear H
     go_wp2_with (first | ((with_reducible refine gate_callee (f := 103) rfl ?_); refine goesL_ (some 9) rfl rfl Try.func103 (by kernel_rfl) rfl #[.string a0] rfl (by (try simp only [List.map_toArray, List.map_cons, List.map_nil]); first | done | rfl | (simp only [List.length_drop, List.length_take]; rfl)) ?_; (with_reducible refine (impl_isDigest.calls a0 true _ A6.out).mono ?_); rintro e w' ⟨rfl, ⟨nd, rfl⟩⟩; refine ⟨_, rfl, ?_⟩; have hcz13_0 : w5.cell? ⟨gb498, 0, none⟩ = some (.int .i64 a2_0) := (blk_cell BK498.out 0).trans rfl; have hcz13_1 : w5.cell? ⟨gb498, 1, none⟩ = some (.slice A2_1 l2_1.length c2_1) := (blk_cell BK498.out 1).trans rfl; have hcz13_2 : w5.cell? ⟨gb498, 2, none⟩ = some (.slice A2_2 l2_2.length c2_2) := (blk_cell BK498.out 2).trans rfl; have hfz13_0 := blk_frozen BK498.out 0; have hfz13_1 := blk_frozen BK498.out 1; have hfz13_2 := blk_frozen BK498.out 2) | (go_at_call 117; (with_reducible refine (impl_isUse.calls a2_0 true _ A8.out).mono ?_); rintro e w' ⟨rfl, ⟨nd, rfl⟩⟩) | (go_at_call 118; (with_reducible refine (impl_isSign.calls k a1 _ _ l2_1 true _ ?side1 ?side2 A10.out).mono ?_); (case side1 => repeat (first | exact (Kd.C_below HR2_1.out (by repeat (first | (with_reducible first | exact HB.out | apply below_alloc | apply pw_below_drewN | apply below_drew1 | refine below_set ?_ GE498.out) | exact HB.out))) | (with_reducible refine Kd.C_alloc ?_ _) | (with_reducible refine Kd.C_drewN ?_ _) | (with_reducible refine Kd.C_drew ?_))); (case side2 => exact HC2_1.out); rintro e w' ⟨rfl, ⟨nd, rfl⟩⟩) | (go_at_call 119; (with_reducible refine (impl_areDigests.calls k _ _ l2_2 3 t502 _ ?side1 ?side2 A12.out).mono ?_); (case side1 => repeat (first | exact (Kd.C_below HR2_2.out (by repeat (first | (with_reducible first | exact HB.out | apply below_alloc | apply pw_below_drewN | apply below_drew1 | refine below_set ?_ GE498.out) | exact HB.out))) | (with_reducible refine Kd.C_alloc ?_ _) | (with_reducible refine Kd.C_drewN ?_ _) | (with_reducible refine Kd.C_drew ?_))); (case side2 => exact HC2_2.out); rintro e w' ⟨rfl, ⟨nd, rfl⟩⟩))
     go_meet
     case rel => exact ⟨_, (!t502), (by first | rfl | (simp; done) | (simp [*]; done) | (simp [bne]; done)), H', ⟨by first | omega | exact Nat.le_refl _⟩, ⟨by (with_reducible repeat (first | refine blk_drewN ?_ _ | refine blk_drew ?_ | refine blk_alloc ?_ _)); exact BK498.out⟩, ⟨by repeat (first | (with_reducible first | exact HB.out | apply below_alloc | apply pw_below_drewN | apply below_drew1 | refine below_set ?_ GE498.out) | exact HB.out)⟩⟩
    ·replace c11 := Bool.eq_false_iff.mpr c11
     subst c11
     have H1 : (impl_CheckSeal.j0 k a0 a1 true a2_0 l2_1 l2_2) = some (r1, r2) := by rw [if_neg (show ¬ (false = true) by decide)] at H; exact H
     clear H
     have H := H1
     clear H1
     have H' := Aside0.mk H
     clear H
     go_wp2_with (first | ((with_reducible refine gate_callee (f := 103) rfl ?_); refine goesL_ (some 9) rfl rfl Try.func103 (by kernel_rfl) rfl #[.string a0] rfl (by (try simp only [List.map_toArray, List.map_cons, List.map_nil]); first | done | rfl | (simp only [List.length_drop, List.length_take]; rfl)) ?_; (with_reducible refine (impl_isDigest.calls a0 true _ A6.out).mono ?_); rintro e w' ⟨rfl, ⟨nd, rfl⟩⟩; refine ⟨_, rfl, ?_⟩; have hcz14_0 : w5.cell? ⟨gb498, 0, none⟩ = some (.int .i64 a2_0) := (blk_cell BK498.out 0).trans rfl; have hcz14_1 : w5.cell? ⟨gb498, 1, none⟩ = some (.slice A2_1 l2_1.length c2_1) := (blk_cell BK498.out 1).trans rfl; have hcz14_2 : w5.cell? ⟨gb498, 2, none⟩ = some (.slice A2_2 l2_2.length c2_2) := (blk_cell BK498.out 2).trans rfl; have hfz14_0 := blk_frozen BK498.out 0; have hfz14_1 := blk_frozen BK498.out 1; have hfz14_2 := blk_frozen BK498.out 2) | (go_at_call 117; (with_reducible refine (impl_isUse.calls a2_0 true _ A8.out).mono ?_); rintro e w' ⟨rfl, ⟨nd, rfl⟩⟩) | (go_at_call 118; (with_reducible refine (impl_isSign.calls k a1 _ _ l2_1 false _ ?side1 ?side2 A10.out).mono ?_); (case side1 => repeat (first | exact (Kd.C_below HR2_1.out (by repeat (first | (with_reducible first | exact HB.out | apply below_alloc | apply pw_below_drewN | apply below_drew1 | refine below_set ?_ GE498.out) | exact HB.out))) | (with_reducible refine Kd.C_alloc ?_ _) | (with_reducible refine Kd.C_drewN ?_ _) | (with_reducible refine Kd.C_drew ?_))); (case side2 => exact HC2_1.out); rintro e w' ⟨rfl, ⟨nd, rfl⟩⟩))
     go_meet
     case rel => exact ⟨_, (true), (by first | rfl | (simp; done) | (simp [*]; done) | (simp [bne]; done)), H', ⟨by first | omega | exact Nat.le_refl _⟩, ⟨by (with_reducible repeat (first | refine blk_drewN ?_ _ | refine blk_drew ?_ | refine blk_alloc ?_ _)); exact BK498.out⟩, ⟨by repeat (first | (with_reducible first | exact HB.out | apply below_alloc | apply pw_below_drewN | apply below_drew1 | refine below_set ?_ GE498.out) | exact HB.out)⟩⟩
   ·replace c9 := Bool.eq_false_iff.mpr c9
    subst c9
    have H1 : (impl_CheckSeal.j0 k a0 a1 true a2_0 l2_1 l2_2) = some (r1, r2) := by rw [if_neg (show ¬ (false = true) by decide)] at H; exact H
    clear H
    have H := H1
    clear H1
    have H' := Aside0.mk H
    clear H
    go_wp2_with (first | ((with_reducible refine gate_callee (f := 103) rfl ?_); refine goesL_ (some 9) rfl rfl Try.func103 (by kernel_rfl) rfl #[.string a0] rfl (by (try simp only [List.map_toArray, List.map_cons, List.map_nil]); first | done | rfl | (simp only [List.length_drop, List.length_take]; rfl)) ?_; (with_reducible refine (impl_isDigest.calls a0 true _ A6.out).mono ?_); rintro e w' ⟨rfl, ⟨nd, rfl⟩⟩; refine ⟨_, rfl, ?_⟩; have hcz15_0 : w5.cell? ⟨gb498, 0, none⟩ = some (.int .i64 a2_0) := (blk_cell BK498.out 0).trans rfl; have hcz15_1 : w5.cell? ⟨gb498, 1, none⟩ = some (.slice A2_1 l2_1.length c2_1) := (blk_cell BK498.out 1).trans rfl; have hcz15_2 : w5.cell? ⟨gb498, 2, none⟩ = some (.slice A2_2 l2_2.length c2_2) := (blk_cell BK498.out 2).trans rfl; have hfz15_0 := blk_frozen BK498.out 0; have hfz15_1 := blk_frozen BK498.out 1; have hfz15_2 := blk_frozen BK498.out 2) | (go_at_call 117; (with_reducible refine (impl_isUse.calls a2_0 false _ A8.out).mono ?_); rintro e w' ⟨rfl, ⟨nd, rfl⟩⟩))
    go_meet
    case rel => exact ⟨_, (true), (by first | rfl | (simp; done) | (simp [*]; done) | (simp [bne]; done)), H', ⟨by first | omega | exact Nat.le_refl _⟩, ⟨by (with_reducible repeat (first | refine blk_drewN ?_ _ | refine blk_drew ?_ | refine blk_alloc ?_ _)); exact BK498.out⟩, ⟨by repeat (first | (with_reducible first | exact HB.out | apply below_alloc | apply pw_below_drewN | apply below_drew1 | refine below_set ?_ GE498.out) | exact HB.out)⟩⟩
  ·replace c7 := Bool.eq_false_iff.mpr c7
   subst c7
   have H1 : (impl_CheckSeal.j0 k a0 a1 true a2_0 l2_1 l2_2) = some (r1, r2) := by rw [if_neg (show ¬ (false = true) by decide)] at H; exact H
   clear H
   have H := H1
   clear H1
   have H' := Aside0.mk H
   clear H
   go_wp2_with (first | ((with_reducible refine gate_callee (f := 103) rfl ?_); refine goesL_ (some 9) rfl rfl Try.func103 (by kernel_rfl) rfl #[.string a0] rfl (by (try simp only [List.map_toArray, List.map_cons, List.map_nil]); first | done | rfl | (simp only [List.length_drop, List.length_take]; rfl)) ?_; (with_reducible refine (impl_isDigest.calls a0 false _ A6.out).mono ?_); rintro e w' ⟨rfl, ⟨nd, rfl⟩⟩; refine ⟨_, rfl, ?_⟩))
   go_meet
   case rel => exact ⟨_, (true), (by first | rfl | (simp; done) | (simp [*]; done) | (simp [bne]; done)), H', ⟨by first | omega | exact Nat.le_refl _⟩, ⟨by (with_reducible repeat (first | refine blk_drewN ?_ _ | refine blk_drew ?_ | refine blk_alloc ?_ _)); exact BK498.out⟩, ⟨by repeat (first | (with_reducible first | exact HB.out | apply below_alloc | apply pw_below_drewN | apply below_drew1 | refine below_set ?_ GE498.out) | exact HB.out)⟩⟩
 case rest =>
  clear HC4
  try clear c1
  try clear c2
  try clear p2
  try clear c3
  try clear c7
  try clear c9
  try clear c10
  try clear c11
  try clear hcz13_0
  try clear hcz13_1
  try clear hcz13_2
  try clear hcz14_0
  try clear hcz14_1
  try clear hcz14_2
  try clear hcz15_0
  try clear hcz15_1
  try clear hcz15_2
  try clear hfz13_0
  try clear hfz13_1
  try clear hfz13_2
  try clear hfz14_0
  try clear hfz14_1
  try clear hfz14_2
  try clear hfz15_0
  try clear hfz15_1
  try clear hfz15_2
  obtain ⟨kq, x29_3, rfl, HA, HJ3, BK498, HB⟩ := hcut
  cases kq with
  | zero => exact absurd HA.out (by simp [impl_CheckSeal.j0])
  | succ kj3 =>
   have H := HA.out
   clear HA
   simp only [impl_CheckSeal.j0] at H
   by_cases c16 : x29_3 = true
   ·subst c16
    have H1 : (some (false, false)) = some (r1, r2) := by rw [if_pos rfl] at H; exact H
    clear H
    have H := H1
    clear H1
    simp only [Option.some.injEq, Prod.mk.injEq] at H
    obtain ⟨rfl, rfl⟩ := H
    go_wp2
    go_ret2
    exact ⟨by first | rfl | (simp [errW_none, errW_some] <;> rfl) | (simp [*, errW_none, errW_some] <;> rfl), by repeat (first | (with_reducible first | exact HB.out | apply below_alloc | apply pw_below_drewN | apply below_drew1 | refine below_set ?_ GE498.out) | exact HB.out)⟩
   ·replace c16 := Bool.eq_false_iff.mpr c16
    subst c16
    have H1 : ((impl_publicFrom.f kj3 a1 l2_1).bind fun t503 => ((impl_topFrom.f kj3 a2_0 t503 l2_2).bind fun t504 => (some ((t504.toList == a0.toList), true)))) = some (r1, r2) := by rw [if_neg (show ¬ (false = true) by decide)] at H; exact H
    clear H
    have H := H1
    clear H1
    replace H := Option.bind_eq_some_iff.mp H
    obtain ⟨t503, A170, H⟩ := H
    replace H : ((impl_topFrom.f kj3 a2_0 t503 l2_2).bind fun t504 => (some ((t504.toList == a0.toList), true))) = some (r1, r2) := H
    have A17 := Aside0.mk A170
    clear A170
    replace H := Option.bind_eq_some_iff.mp H
    obtain ⟨t504, A180, H⟩ := H
    replace H : (some ((t504.toList == a0.toList), true)) = some (r1, r2) := H
    have A18 := Aside0.mk A180
    clear A180
    simp only [Option.some.injEq, Prod.mk.injEq] at H
    obtain ⟨rfl, rfl⟩ := H
    try go_wp2
    have n0_ := Aside0.mk (blk_drew BK498.out)
    have n1_ := Aside0.mk (below_drew1 HB.out)
    clear BK498
    clear HB
    have BK498 := n0_
    have HB := n1_
    clear n0_ n1_
    refine start_ (n := 13) (S := fun w' => w'.cell? ⟨gb498, 0, none⟩ = some (.int .i64 a2_0) ∧ w'.cell? ⟨gb498, 1, none⟩ = some (.slice A2_1 l2_1.length c2_1) ∧ w'.cell? ⟨gb498, 2, none⟩ = some (.slice A2_2 l2_2.length c2_2)) (ds := []) #[false, false, false, false, false, false, false, false, false, false, false, false, false] (by kernel_rfl) rfl rfl ⟨(blk_cell BK498.out 0).trans rfl, (blk_cell BK498.out 1).trans rfl, (blk_cell BK498.out 2).trans rfl⟩ (fun hHeld => ?_); refine with_tabW impl_CheckSeal.tab3 impl_CheckSeal.bits3 (fun HT_ HW_ => ?_)
    generalize wc.drew = w19 at BK498 HB hHeld ⊢
    refine pure_ (i := 0) (N := some 30) (v := ?_) (a' := ?_) #[true, false, false, false, false, false, false, false, false, false, false, false, false] rfl rfl (any_of HT_.out (by kernel_rfl)) (fun _ _ _ h => h) (Or.inl ⟨by rfl, ?_⟩) ?_ ?_
    rotate_left
    ·intro w'
     go_simp
     with_reducible rfl
    rotate_left
    ·simp only [Act.put, List.setIfInBounds_toArray, List.set_cons_zero, List.set_cons_succ, i64_w, i32_w]
     rfl
    refine pure_ (i := 2) (N := some 32) (v := ?_) (a' := ?_) #[true, false, true, false, false, false, false, false, false, false, false, false, false] rfl rfl (any_of HT_.out (by kernel_rfl)) (fun _ _ _ h => h) (Or.inl ⟨by rfl, ?_⟩) ?_ ?_
    rotate_left
    ·intro w'
     go_simp
     with_reducible rfl
    rotate_left
    ·simp only [Act.put, List.setIfInBounds_toArray, List.set_cons_zero, List.set_cons_succ, i64_w, i32_w]
     rfl
    refine pure_ (i := 3) (N := some 33) (v := ?_) (a' := ?_) #[true, false, true, true, false, false, false, false, false, false, false, false, false] rfl rfl (any_of HT_.out (by kernel_rfl)) (fun _ _ _ h => h) (Or.inl ⟨by rfl, ?_⟩) ?_ ?_
    rotate_left
    ·intro w'
     go_simp
     with_reducible rfl
    rotate_left
    ·simp only [Act.put, List.setIfInBounds_toArray, List.set_cons_zero, List.set_cons_succ, i64_w, i32_w]
     rfl
    refine pure_ (i := 6) (N := some 36) (v := ?_) (a' := ?_) #[true, false, true, true, false, false, true, false, false, false, false, false, false] rfl rfl (any_of HT_.out (by kernel_rfl)) (fun _ _ _ h => h) (Or.inl ⟨by rfl, ?_⟩) ?_ ?_
    rotate_left
    ·intro w'
     go_simp
     with_reducible rfl
    rotate_left
    ·simp only [Act.put, List.setIfInBounds_toArray, List.set_cons_zero, List.set_cons_succ, i64_w, i32_w]
     rfl
    refine pure_ (i := 9) (N := some 39) (v := ?_) (a' := ?_) #[true, false, true, true, false, false, true, false, false, true, false, false, false] rfl rfl (any_of HT_.out (by kernel_rfl)) (fun _ _ _ h => h) (Or.inl ⟨by rfl, ?_⟩) ?_ ?_
    rotate_left
    ·intro w'
     go_simp
     with_reducible rfl
    rotate_left
    ·simp only [Act.put, List.setIfInBounds_toArray, List.set_cons_zero, List.set_cons_succ, i64_w, i32_w]
     rfl
    refine take_ (i := 1) (N := some 31) (v := ?_) (a' := ?_) #[true, true, true, true, false, false, true, false, false, true, false, false, false] rfl rfl (take_ofW HT_.out HW_.out (by kernel_rfl)) (fun _ _ _ h => h) (Or.inl ⟨by rfl, ?_⟩) hHeld ?_ ?_
    rotate_left
    ·rintro w' ⟨s0, s1, s2⟩
     go_simp
     with_reducible rfl
    rotate_left
    ·simp only [Act.put, List.setIfInBounds_toArray, List.set_cons_zero, List.set_cons_succ, i64_w, i32_w]
     rfl
    refine take_ (i := 4) (N := some 34) (v := ?_) (a' := ?_) #[true, true, true, true, true, false, true, false, false, true, false, false, false] rfl rfl (take_ofW HT_.out HW_.out (by kernel_rfl)) (fun _ _ _ h => h) (Or.inl ⟨by rfl, ?_⟩) hHeld ?_ ?_
    rotate_left
    ·rintro w' ⟨s0, s1, s2⟩
     go_simp
     with_reducible rfl
    rotate_left
    ·simp only [Act.put, List.setIfInBounds_toArray, List.set_cons_zero, List.set_cons_succ, i64_w, i32_w]
     rfl
    refine take_ (i := 7) (N := some 37) (v := ?_) (a' := ?_) #[true, true, true, true, true, false, true, true, false, true, false, false, false] rfl rfl (take_ofW HT_.out HW_.out (by kernel_rfl)) (fun _ _ _ h => h) (Or.inl ⟨by rfl, ?_⟩) hHeld ?_ ?_
    rotate_left
    ·rintro w' ⟨s0, s1, s2⟩
     go_simp
     with_reducible rfl
    rotate_left
    ·simp only [Act.put, List.setIfInBounds_toArray, List.set_cons_zero, List.set_cons_succ, i64_w, i32_w]
     rfl
    refine one_ (i := 5) (N := some 35) #[true, true, true, true, true, true, true, true, false, true, false, false, false] rfl rfl (one_of HT_.out (by kernel_rfl)) (by decide) (fun K hK => ?_)
    refine goes_ Try.func121 (by kernel_rfl) rfl #[.string a1, .slice A2_1 l2_1.length c2_1] (by rfl) rfl rfl (by (try simp only [List.map_toArray, List.map_cons, List.map_nil]); first | done | rfl | (simp only [List.length_drop, List.length_take]; rfl)) ?_
    with_reducible refine (impl_publicFrom.calls kj3 a1 _ _ l2_1 t503 _ ?side1 ?side2 A17.out).mono ?_
    (case side1 => repeat (first | exact (Kd.C_below HR2_1.out HB.out) | (with_reducible refine Kd.C_alloc ?_ _) | (with_reducible refine Kd.C_drewN ?_ _) | (with_reducible refine Kd.C_drew ?_)))
    (case side2 => exact HC2_1.out)
    rintro e w20 ⟨rfl, hb⟩
    refine ⟨_, rfl, ?_⟩
    have n0_ := Aside0.mk (blk_below (g := gb498) (o := .cells #[.int .i64 a2_0, .slice A2_1 l2_1.length c2_1, .slice A2_2 l2_2.length c2_2] 50 (0, 0)) (by (with_reducible repeat (first | refine blk_drewN ?_ _ | refine blk_drew ?_ | refine blk_alloc ?_ _)); exact BK498.out) hb)
    have n1_ := Aside0.mk (below_step (by repeat (first | (with_reducible first | exact HB.out | apply below_alloc | apply pw_below_drewN | apply below_drew1 | refine below_set ?_ GE498.out) | exact HB.out)) hb)
    clear BK498
    clear HB
    have BK498 := n0_
    have HB := n1_
    clear n0_ n1_
    (try clear hb)
    (try clear hb2)
    (try clear hk)
    (try clear hi)
    refine hK.out _ _ ⟨(blk_cell BK498.out 0).trans rfl, (blk_cell BK498.out 1).trans rfl, (blk_cell BK498.out 2).trans rfl⟩ (fun hHeld => ?_)
    clear hK K
    refine norm_ (a' := ?_) ?_ ?_
    rotate_left
    ·show Act.put _ (some 35) _ = _
     simp only [Act.put, List.setIfInBounds_toArray, List.set_cons_zero, List.set_cons_succ, i64_w, i32_w]
     rfl
    refine one_ (i := 8) (N := some 38) #[true, true, true, true, true, true, true, true, true, true, false, false, false] rfl rfl (one_of HT_.out (by kernel_rfl)) (by decide) (fun K hK => ?_)
    refine goes_ Try.func120 (by kernel_rfl) rfl #[.int .i64 a2_0, .string t503, .slice A2_2 l2_2.length c2_2] (by rfl) rfl rfl (by (try simp only [List.map_toArray, List.map_cons, List.map_nil]); first | done | rfl | (simp only [List.length_drop, List.length_take]; rfl)) ?_
    with_reducible refine (impl_topFrom.calls kj3 a2_0 t503 _ _ l2_2 t504 _ ?side1 ?side2 A18.out).mono ?_
    (case side1 => repeat (first | exact (Kd.C_below HR2_2.out HB.out) | (with_reducible refine Kd.C_alloc ?_ _) | (with_reducible refine Kd.C_drewN ?_ _) | (with_reducible refine Kd.C_drew ?_)))
    (case side2 => exact HC2_2.out)
    rintro e w21 ⟨rfl, hb⟩
    refine ⟨_, rfl, ?_⟩
    have n0_ := Aside0.mk (blk_below (g := gb498) (o := .cells #[.int .i64 a2_0, .slice A2_1 l2_1.length c2_1, .slice A2_2 l2_2.length c2_2] 50 (0, 0)) (by (with_reducible repeat (first | refine blk_drewN ?_ _ | refine blk_drew ?_ | refine blk_alloc ?_ _)); exact BK498.out) hb)
    have n1_ := Aside0.mk (below_step (by repeat (first | (with_reducible first | exact HB.out | apply below_alloc | apply pw_below_drewN | apply below_drew1 | refine below_set ?_ GE498.out) | exact HB.out)) hb)
    clear BK498
    clear HB
    have BK498 := n0_
    have HB := n1_
    clear n0_ n1_
    (try clear hb)
    (try clear hb2)
    (try clear hk)
    (try clear hi)
    refine hK.out _ _ ⟨(blk_cell BK498.out 0).trans rfl, (blk_cell BK498.out 1).trans rfl, (blk_cell BK498.out 2).trans rfl⟩ (fun hHeld => ?_)
    clear hK K
    refine norm_ (a' := ?_) ?_ ?_
    rotate_left
    ·show Act.put _ (some 38) _ = _
     simp only [Act.put, List.setIfInBounds_toArray, List.set_cons_zero, List.set_cons_succ, i64_w, i32_w]
     rfl
    refine pure_ (i := 10) (N := some 40) (v := ?_) (a' := ?_) #[true, true, true, true, true, true, true, true, true, true, true, false, false] rfl rfl (any_of HT_.out (by kernel_rfl)) (fun _ _ _ h => h) (Or.inl ⟨by rfl, ?_⟩) ?_ ?_
    rotate_left
    ·intro w'
     go_simp
     with_reducible rfl
    rotate_left
    ·simp only [Act.put, List.setIfInBounds_toArray, List.set_cons_zero, List.set_cons_succ, i64_w, i32_w]
     rfl
    refine pure_ (i := 11) (N := some 6) (v := ?_) (a' := ?_) #[true, true, true, true, true, true, true, true, true, true, true, true, false] rfl rfl (any_of HT_.out (by kernel_rfl)) (fun _ _ _ h => h) (Or.inl ⟨by rfl, ?_⟩) ?_ ?_
    rotate_left
    ·intro w'
     go_simp
     with_reducible rfl
    rotate_left
    ·simp only [Act.put, List.setIfInBounds_toArray, List.set_cons_zero, List.set_cons_succ, i64_w, i32_w]
     rfl
    refine pure_ (i := 12) (N := some 7) (v := ?_) (a' := ?_) #[true, true, true, true, true, true, true, true, true, true, true, true, true] rfl rfl (any_of HT_.out (by kernel_rfl)) (fun _ _ _ h => h) (Or.inl ⟨by rfl, ?_⟩) ?_ ?_
    rotate_left
    ·intro w'
     go_simp
     with_reducible rfl
    rotate_left
    ·simp only [Act.put, List.setIfInBounds_toArray, List.set_cons_zero, List.set_cons_succ, i64_w, i32_w]
     rfl
    refine done_ (done_of HT_.out (by kernel_rfl)) ?_
    try go_wp2
    go_ret2
    exact ⟨by first | rfl | (simp [errW_none, errW_some] <;> rfl) | (simp [*, errW_none, errW_some] <;> rfl), by repeat (first | (with_reducible first | exact HB.out | apply below_alloc | apply pw_below_drewN | apply below_drew1 | refine below_set ?_ GE498.out) | exact HB.out)⟩
def laws_eqStringS.l0 : Nat → List ByteArray → List ByteArray → Int → Option (Bool)
 | 0, _, _, _ => none
 | k + 1, x0, x1, x5 => if x5 < (x0.length : Int) then (if 0 ≤ x5 then (if x5 < (x1.length : Int) then (if (rdOf ByteArray.empty x0 x5).toList = (rdOf ByteArray.empty x1 x5).toList then (laws_eqStringS.l0 k x0 x1 (wrap64 (x5 + 1))) else (some false)) else (none)) else (none)) else (some true)
def laws_eqStringS.f (k : Nat) (l0 : List ByteArray) (l1 : List ByteArray) : Option (Bool) := if (l0.length : Int) = (l1.length : Int) then (laws_eqStringS.l0 k l0 l1 0) else (some false)
set_option maxHeartbeats 8000000 in
set_option maxRecDepth 100000 in
theorem laws_eqStringS.calls (k : Nat) (A0 : Option Addr) (c0 : Nat) (l0 : List ByteArray) (A1 : Option Addr) (c1 : Nat) (l1 : List ByteArray) (r : Bool) (w : World) (hr0 : Kd.C Kd.string w A0 l0.length l0) (hc0 : l0.length ≤ c0) (hr1 : Kd.C Kd.string w A1 l1.length l1) (hc1 : l1.length ≤ c1) (h : laws_eqStringS.f k l0 l1 = some r) :
  Calls Try.prog 67 #[.slice A0 l0.length c0, .slice A1 l1.length c1] w fun e w' => e = .returned (.bool r) ∧ Drawn0 w w' := by
 have HR0 := Aside0.mk hr0
 have HC0 := Aside0.mk hc0
 clear hr0 hc0
 have HR1 := Aside0.mk hr1
 have HC1 := Aside0.mk hc1
 clear hr1 hc1
 have H : (if (l0.length : Int) = (l1.length : Int) then (laws_eqStringS.l0 k l0 l1 0) else (some false)) = some r := h
 clear h
 by_cases c3 : (l0.length : Int) = (l1.length : Int)
 ·rw [if_pos c3] at H
  have c3b0 : ((l0.length : Int) == (l1.length : Int)) = true := beq_iff_eq.mpr c3
  have c3b1 : ((l0.length : Int) != (l1.length : Int)) = false := bne_eq_false_iff_eq.mpr c3
  have c3b2 : (l0.length == l1.length) = true := by first | simpa using c3 | (simp at c3 ⊢; omega)
  clear c3
  have H' := Aside0.mk H
  clear H
  go_enter Try.func67, Try.ntmps67
  go_wp2
  repeat (go_quiet (fail); try go_wp2)
  go_loopg [5] k (fun kq v5 w' => ∃ (x5_1 : Int), v5 = .int .i64 x5_1 ∧ Aside0 (laws_eqStringS.l0 kq l0 l1 x5_1 = some r) ∧ Aside0 (kq ≤ k) ∧ Drawn0 w w')
  case atStart => exact ⟨(0), (by first | rfl | (simp; done) | (simp [*]; done) | (simp [bne]; done)), H', ⟨Nat.le_refl _⟩, by repeat (first | exact Drawn0.refl _ | apply Drawn0.step)⟩
  case round =>
   clear H'
   try clear c1
   try clear p2
   try clear c3
   try clear c3b0
   try clear c3b1
   try clear c3b2
   obtain ⟨x5_1, rfl, HA, HK1, ⟨m1, rfl⟩⟩ := hrel
   cases gk with
   | zero => exact absurd HA.out (by simp [laws_eqStringS.l0])
   | succ k1 =>
    have H := HA.out
    clear HA
    simp only [laws_eqStringS.l0] at H
    by_cases c4 : x5_1 < (l0.length : Int)
    ·rw [if_pos c4] at H
     have c4b0 : decide (x5_1 < (l0.length : Int)) = true := decide_eq_true c4
     clear c4
     by_cases c5 : 0 ≤ x5_1
     ·rw [if_pos c5] at H
      have c5b0 : decide (0 ≤ x5_1) = true := decide_eq_true c5
      clear c5
      by_cases c6 : x5_1 < (l1.length : Int)
      ·rw [if_pos c6] at H
       have c6b0 : decide (x5_1 < (l1.length : Int)) = true := decide_eq_true c6
       clear c6
       by_cases c7 : (rdOf ByteArray.empty l0 x5_1).toList = (rdOf ByteArray.empty l1 x5_1).toList
       ·rw [if_pos c7] at H
        have c7b0 : ((rdOf ByteArray.empty l0 x5_1).toList == (rdOf ByteArray.empty l1 x5_1).toList) = true := beq_iff_eq.mpr c7
        have c7b1 : ((rdOf ByteArray.empty l0 x5_1).toList != (rdOf ByteArray.empty l1 x5_1).toList) = false := bne_eq_false_iff_eq.mpr c7
        clear c7
        have H' := Aside0.mk H
        clear H
        have p505 : 0 ≤ (x5_1 : Int) := of_decide_eq_true (by first | (with_reducible assumption) | assumption)
        have q505 : x5_1 < (l0.length : Int) := of_decide_eq_true (by first | (with_reducible assumption) | assumption)
        obtain ⟨ad505, e505, hx505_0⟩ := Kd.at_string HR0.out x5_1 p505 q505
        cases e505
        replace p505 := eq_true p505
        replace q505 := eq_true q505
        have p506 : 0 ≤ (x5_1 : Int) := of_decide_eq_true (by first | (with_reducible assumption) | assumption)
        have q506 : x5_1 < (l1.length : Int) := of_decide_eq_true (by first | (with_reducible assumption) | assumption)
        obtain ⟨ad506, e506, hx506_0⟩ := Kd.at_string HR1.out x5_1 p506 q506
        cases e506
        replace p506 := eq_true p506
        replace q506 := eq_true q506
        go_wp2
        repeat (go_quiet (fail); try go_wp2)
        go_roundg k1
        case measure => have := HK1.out; omega
        case rel => exact ⟨(wrap64 (x5_1 + 1)), (by first | rfl | (simp; done) | (simp [*]; done) | (simp [bne]; done)), H', ⟨by have := HK1.out; omega⟩, by repeat (first | exact Drawn0.refl _ | apply Drawn0.step)⟩
       ·rw [if_neg c7] at H
        have c7b0 : ((rdOf ByteArray.empty l0 x5_1).toList == (rdOf ByteArray.empty l1 x5_1).toList) = false := beq_eq_false_iff_ne.mpr c7
        have c7b1 : ((rdOf ByteArray.empty l0 x5_1).toList != (rdOf ByteArray.empty l1 x5_1).toList) = true := bne_iff_ne.mpr c7
        obtain rfl := Option.some.inj H
        have p505 : 0 ≤ (x5_1 : Int) := of_decide_eq_true (by first | (with_reducible assumption) | assumption)
        have q505 : x5_1 < (l0.length : Int) := of_decide_eq_true (by first | (with_reducible assumption) | assumption)
        obtain ⟨ad505, e505, hx505_0⟩ := Kd.at_string HR0.out x5_1 p505 q505
        cases e505
        replace p505 := eq_true p505
        replace q505 := eq_true q505
        have p506 : 0 ≤ (x5_1 : Int) := of_decide_eq_true (by first | (with_reducible assumption) | assumption)
        have q506 : x5_1 < (l1.length : Int) := of_decide_eq_true (by first | (with_reducible assumption) | assumption)
        obtain ⟨ad506, e506, hx506_0⟩ := Kd.at_string HR1.out x5_1 p506 q506
        cases e506
        replace p506 := eq_true p506
        replace q506 := eq_true q506
        go_wp2
        repeat (go_quiet (fail); try go_wp2)
        go_ret
        exact ⟨by first | rfl | (simp; done) | (simp [*]; done) | (simp [bne]; done), by repeat (first | exact Drawn0.refl _ | apply Drawn0.step)⟩
      ·rw [if_neg c6] at H
       exact absurd H (by simp)
     ·rw [if_neg c5] at H
      exact absurd H (by simp)
    ·rw [if_neg c4] at H
     have c4b0 : decide (x5_1 < (l0.length : Int)) = false := decide_eq_false c4
     clear c4
     obtain rfl := Option.some.inj H
     go_wp2
     repeat (go_quiet (fail); try go_wp2)
     go_ret
     exact ⟨by first | rfl | (simp; done) | (simp [*]; done) | (simp [bne]; done), by repeat (first | exact Drawn0.refl _ | apply Drawn0.step)⟩
 ·rw [if_neg c3] at H
  have c3b0 : ((l0.length : Int) == (l1.length : Int)) = false := beq_eq_false_iff_ne.mpr c3
  have c3b1 : ((l0.length : Int) != (l1.length : Int)) = true := bne_iff_ne.mpr c3
  have c3b2 : (l0.length == l1.length) = false := by first | simpa using c3 | (simp at c3 ⊢; omega)
  obtain rfl := Option.some.inj H
  go_enter Try.func67, Try.ntmps67
  go_wp2
  repeat (go_quiet (fail); try go_wp2)
  go_ret
  exact ⟨by first | rfl | (simp; done) | (simp [*]; done) | (simp [bne]; done), by repeat (first | exact Drawn0.refl _ | apply Drawn0.step)⟩
end Go.Proofs.Ytfajabboibcgpaa.PA
end
section
namespace Go.Proofs.Ytfajabboibcgpaa.PA
open Go.RowKit Go.Proofs.YtfajabboibcgpaaW.PrintWords Go.Proofs.YtfajabboibcgpaaW.PrintLast Go.Proofs.YtfajabboibcgpaaW.PrintMore
attribute [local go_sem] max2_int min2_int max_two min_two max_three min_three max_four min_four   -- for this text's walks alone
set_option linter.unusedVariables false
set_option linter.unusedSimpArgs false
def laws_eqSeal.f (k : Nat) (a0_0 : Int) (l0_1 : List ByteArray) (l0_2 : List ByteArray) (a1_0 : Int) (l1_1 : List ByteArray) (l1_2 : List ByteArray) : Option (Bool) := if a0_0 = a1_0 then ((laws_eqStringS.f k l0_1 l1_1).bind fun t509 => (if t509 = true then ((laws_eqStringS.f k l0_2 l1_2).bind fun t510 => (if t510 = true then (some true) else (some false))) else (some false))) else (some false)
set_option maxHeartbeats 8000000 in
set_option maxRecDepth 100000 in
theorem laws_eqSeal.calls (k : Nat) (a0_0 : Int) (A0_1 : Option Addr) (c0_1 : Nat) (l0_1 : List ByteArray) (A0_2 : Option Addr) (c0_2 : Nat) (l0_2 : List ByteArray) (a1_0 : Int) (A1_1 : Option Addr) (c1_1 : Nat) (l1_1 : List ByteArray) (A1_2 : Option Addr) (c1_2 : Nat) (l1_2 : List ByteArray) (r : Bool) (w : World) (hr0_1 : Kd.C Kd.string w A0_1 l0_1.length l0_1) (hc0_1 : l0_1.length ≤ c0_1) (hr0_2 : Kd.C Kd.string w A0_2 l0_2.length l0_2) (hc0_2 : l0_2.length ≤ c0_2) (hr1_1 : Kd.C Kd.string w A1_1 l1_1.length l1_1) (hc1_1 : l1_1.length ≤ c1_1) (hr1_2 : Kd.C Kd.string w A1_2 l1_2.length l1_2) (hc1_2 : l1_2.length ≤ c1_2) (h : laws_eqSeal.f k a0_0 l0_1 l0_2 a1_0 l1_1 l1_2 = some r) :
  Calls Try.prog 35 #[.agg #[.int .i64 a0_0, .slice A0_1 l0_1.length c0_1, .slice A0_2 l0_2.length c0_2], .agg #[.int .i64 a1_0, .slice A1_1 l1_1.length c1_1, .slice A1_2 l1_2.length c1_2]] w fun e w' => e = .returned (.bool r) ∧ Below w.heap.size w w' := by
 have hu50 := Try.underlying50
 have HR0_1 := Aside0.mk hr0_1
 have HC0_1 := Aside0.mk hc0_1
 clear hr0_1 hc0_1
 have HR0_2 := Aside0.mk hr0_2
 have HC0_2 := Aside0.mk hc0_2
 clear hr0_2 hc0_2
 have HR1_1 := Aside0.mk hr1_1
 have HC1_1 := Aside0.mk hc1_1
 clear hr1_1 hc1_1
 have HR1_2 := Aside0.mk hr1_2
 have HC1_2 := Aside0.mk hc1_2
 clear hr1_2 hc1_2
 have HB := Aside0.mk (Below.refl w.heap.size w)
 have H : (if a0_0 = a1_0 then ((laws_eqStringS.f k l0_1 l1_1).bind fun t509 => (if t509 = true then ((laws_eqStringS.f k l0_2 l1_2).bind fun t510 => (if t510 = true then (some true) else (some false))) else (some false))) else (some false)) = some r := h
 clear h
 by_cases c3 : a0_0 = a1_0
 ·rw [if_pos c3] at H
  have c3b0 : (a0_0 == a1_0) = true := beq_iff_eq.mpr c3
  have c3b1 : (a0_0 != a1_0) = false := bne_eq_false_iff_eq.mpr c3
  clear c3
  replace H := Option.bind_eq_some_iff.mp H
  obtain ⟨t509, A40, H⟩ := H
  replace H : (if t509 = true then ((laws_eqStringS.f k l0_2 l1_2).bind fun t510 => (if t510 = true then (some true) else (some false))) else (some false)) = some r := H
  have A4 := Aside0.mk A40
  clear A40
  by_cases c5 : t509 = true
  ·subst c5
   have H1 : ((laws_eqStringS.f k l0_2 l1_2).bind fun t510 => (if t510 = true then (some true) else (some false))) = some r := by rw [if_pos rfl] at H; exact H
   clear H
   have H := H1
   clear H1
   replace H := Option.bind_eq_some_iff.mp H
   obtain ⟨t510, A60, H⟩ := H
   replace H : (if t510 = true then (some true) else (some false)) = some r := H
   have A6 := Aside0.mk A60
   clear A60
   by_cases c7 : t510 = true
   ·subst c7
    have H1 : (some true) = some r := by rw [if_pos rfl] at H; exact H
    clear H
    have H := H1
    clear H1
    obtain rfl := Option.some.inj H
    go_enter Try.func35, Try.ntmps35
    go_wp2_with (first | ((with_reducible refine gate_dst (N := 2) rfl ?_); refine box_event ?hg (N := 2) ?hd (cs := #[.int .i64 a0_0, .slice A0_1 l0_1.length c0_1, .slice A0_2 l0_2.length c0_2]) (t := 50) ?hr ?_; (case hd => rfl); (case hg => rfl); (case hr => first | (go_simp; done) | (go_simp; rfl)); intro gb507 hg w8 hbox hb; have n0_ := Aside0.mk (below_step (by repeat (first | (with_reducible first | exact HB.out | apply below_alloc | apply pw_below_drewN | apply below_drew1) | exact HB.out)) hb); have n1_ := Aside0.mk (hbox); have n2_ := Aside0.mk ((by rw [hg]; exact (below_size (by repeat (first | (with_reducible first | exact HB.out | apply below_alloc | apply pw_below_drewN | apply below_drew1) | exact HB.out))) : w.heap.size ≤ gb507)); have n3_ := Aside0.mk ((by rw [hg]; exact (below_size (by repeat (first | (with_reducible first | exact HB.out | apply below_alloc | apply pw_below_drewN | apply below_drew1) | exact HB.out))) : w.heap.size ≤ gb507)); clear HB; have HB := n0_; have BK507 := n1_; have GW507 := n2_; have GE507 := n3_; clear n0_ n1_ n2_ n3_; clear hb hbox hg) | ((with_reducible refine gate_dst (N := 3) rfl ?_); refine box_event ?hg (N := 3) ?hd (cs := #[.int .i64 a1_0, .slice A1_1 l1_1.length c1_1, .slice A1_2 l1_2.length c1_2]) (t := 50) ?hr ?_; (case hd => rfl); (case hg => rfl); (case hr => first | (go_simp; done) | (go_simp; rfl)); intro gb508 hg w9 hbox hb; have n0_ := Aside0.mk (blk_below (g := gb507) (o := .cells #[.int .i64 a0_0, .slice A0_1 l0_1.length c0_1, .slice A0_2 l0_2.length c0_2] 50 (0, 0)) (by (with_reducible repeat (first | refine blk_drewN ?_ _ | refine blk_drew ?_ | refine blk_alloc ?_ _)); exact BK507.out) hb); have n1_ := Aside0.mk (below_step (by repeat (first | (with_reducible first | exact HB.out | apply below_alloc | apply pw_below_drewN | apply below_drew1 | refine below_set ?_ GE507.out) | exact HB.out)) hb); have n2_ := Aside0.mk (hbox); have n3_ := Aside0.mk ((by rw [hg]; exact (below_size (by repeat (first | (with_reducible first | exact HB.out | apply below_alloc | apply pw_below_drewN | apply below_drew1 | refine below_set ?_ GE507.out) | exact HB.out))) : w.heap.size ≤ gb508)); have n4_ := Aside0.mk ((by rw [hg]; exact (below_size (by repeat (first | (with_reducible first | exact HB.out | apply below_alloc | apply pw_below_drewN | apply below_drew1 | refine below_set ?_ GE507.out) | exact HB.out))) : w.heap.size ≤ gb508)); have n5_ := Aside0.mk ((by rw [hg]; exact Nat.ne_of_lt (blk_lt (g := gb507) (o := .cells #[.int .i64 a0_0, .slice A0_1 l0_1.length c0_1, .slice A0_2 l0_2.length c0_2] 50 (0, 0)) (by (with_reducible repeat (first | refine blk_drewN ?_ _ | refine blk_drew ?_ | refine blk_alloc ?_ _)); exact BK507.out)) : gb507 ≠ gb508)); have n6_ := Aside0.mk ((by rw [hg]; exact Nat.ne_of_gt (blk_lt (g := gb507) (o := .cells #[.int .i64 a0_0, .slice A0_1 l0_1.length c0_1, .slice A0_2 l0_2.length c0_2] 50 (0, 0)) (by (with_reducible repeat (first | refine blk_drewN ?_ _ | refine blk_drew ?_ | refine blk_alloc ?_ _)); exact BK507.out)) : gb508 ≠ gb507)); clear BK507; clear HB; have BK507 := n0_; have HB := n1_; have BK508 := n2_; have GW508 := n3_; have GE508 := n4_; have NB507_508 := n5_; have NB508_507 := n6_; clear n0_ n1_ n2_ n3_ n4_ n5_ n6_; clear hb hbox hg; have hnb10 := NB507_508.out; have hnc10 := NB508_507.out; have hcz11_0 : w9.cell? ⟨gb507, 0, none⟩ = some (.int .i64 a0_0) := (blk_cell BK507.out 0).trans rfl; have hcz11_1 : w9.cell? ⟨gb507, 1, none⟩ = some (.slice A0_1 l0_1.length c0_1) := (blk_cell BK507.out 1).trans rfl; have hcz11_2 : w9.cell? ⟨gb507, 2, none⟩ = some (.slice A0_2 l0_2.length c0_2) := (blk_cell BK507.out 2).trans rfl; have hfz11_0 := blk_frozen BK507.out 0; have hfz11_1 := blk_frozen BK507.out 1; have hfz11_2 := blk_frozen BK507.out 2; have hcz12_0 : w9.cell? ⟨gb508, 0, none⟩ = some (.int .i64 a1_0) := (blk_cell BK508.out 0).trans rfl; have hcz12_1 : w9.cell? ⟨gb508, 1, none⟩ = some (.slice A1_1 l1_1.length c1_1) := (blk_cell BK508.out 1).trans rfl; have hcz12_2 : w9.cell? ⟨gb508, 2, none⟩ = some (.slice A1_2 l1_2.length c1_2) := (blk_cell BK508.out 2).trans rfl; have hfz12_0 := blk_frozen BK508.out 0; have hfz12_1 := blk_frozen BK508.out 1; have hfz12_2 := blk_frozen BK508.out 2) | ((with_reducible refine gate_callee (f := 67) rfl ?_); refine goesL_ (some 14) rfl rfl Try.func67 (by kernel_rfl) rfl #[.slice A0_1 l0_1.length c0_1, .slice A1_1 l1_1.length c1_1] rfl (by (try simp only [List.map_toArray, List.map_cons, List.map_nil]); first | done | rfl | (simp only [List.length_drop, List.length_take]; rfl)) ?_; (with_reducible refine (laws_eqStringS.calls k _ _ l0_1 _ _ l1_1 true _ ?side1 ?side2 ?side3 ?side4 A4.out).mono ?_); (case side1 => repeat (first | exact (Kd.C_below HR0_1.out HB.out) | (with_reducible refine Kd.C_alloc ?_ _) | (with_reducible refine Kd.C_drewN ?_ _) | (with_reducible refine Kd.C_drew ?_))); (case side2 => exact HC0_1.out); (case side3 => repeat (first | exact (Kd.C_below HR1_1.out HB.out) | (with_reducible refine Kd.C_alloc ?_ _) | (with_reducible refine Kd.C_drewN ?_ _) | (with_reducible refine Kd.C_drew ?_))); (case side4 => exact HC1_1.out); rintro e w' ⟨rfl, ⟨nd, rfl⟩⟩; refine ⟨_, rfl, ?_⟩) | ((with_reducible refine gate_callee (f := 67) rfl ?_); refine goesL_ (some 20) rfl rfl Try.func67 (by kernel_rfl) rfl #[.slice A0_2 l0_2.length c0_2, .slice A1_2 l1_2.length c1_2] rfl (by (try simp only [List.map_toArray, List.map_cons, List.map_nil]); first | done | rfl | (simp only [List.length_drop, List.length_take]; rfl)) ?_; (with_reducible refine (laws_eqStringS.calls k _ _ l0_2 _ _ l1_2 true _ ?side1 ?side2 ?side3 ?side4 A6.out).mono ?_); (case side1 => repeat (first | exact (Kd.C_below HR0_2.out (by repeat (first | (with_reducible first | exact HB.out | apply below_alloc | apply pw_below_drewN | apply below_drew1 | refine below_set ?_ GE507.out | refine below_set ?_ GE508.out) | exact HB.out))) | (with_reducible refine Kd.C_alloc ?_ _) | (with_reducible refine Kd.C_drewN ?_ _) | (with_reducible refine Kd.C_drew ?_))); (case side2 => exact HC0_2.out); (case side3 => repeat (first | exact (Kd.C_below HR1_2.out (by repeat (first | (with_reducible first | exact HB.out | apply below_alloc | apply pw_below_drewN | apply below_drew1 | refine below_set ?_ GE507.out | refine below_set ?_ GE508.out) | exact HB.out))) | (with_reducible refine Kd.C_alloc ?_ _) | (with_reducible refine Kd.C_drewN ?_ _) | (with_reducible refine Kd.C_drew ?_))); (case side4 => exact HC1_2.out); rintro e w' ⟨rfl, ⟨nd, rfl⟩⟩; refine ⟨_, rfl, ?_⟩))
    go_ret
    exact ⟨by first | rfl | (simp [errW_none, errW_some] <;> rfl) | (simp [*, errW_none, errW_some] <;> rfl), by repeat (first | (with_reducible first | exact HB.out | apply below_alloc | apply pw_below_drewN | apply below_drew1 | refine below_set ?_ GE507.out | refine below_set ?_ GE508.out) | exact HB.out)⟩
   ·replace c7 := Bool.eq_false_iff.mpr c7
    subst c7
    have H1 : (some false) = some r := by rw [if_neg (show ¬ (false = true) by decide)] at H; exact H
    clear H
    have H := H1
    clear H1
    obtain rfl := Option.some.inj H
    go_enter Try.func35, Try.ntmps35
    go_wp2_with (first | ((with_reducible refine gate_dst (N := 2) rfl ?_); refine box_event ?hg (N := 2) ?hd (cs := #[.int .i64 a0_0, .slice A0_1 l0_1.length c0_1, .slice A0_2 l0_2.length c0_2]) (t := 50) ?hr ?_; (case hd => rfl); (case hg => rfl); (case hr => first | (go_simp; done) | (go_simp; rfl)); intro gb507 hg w13 hbox hb; have n0_ := Aside0.mk (below_step (by repeat (first | (with_reducible first | exact HB.out | apply below_alloc | apply pw_below_drewN | apply below_drew1) | exact HB.out)) hb); have n1_ := Aside0.mk (hbox); have n2_ := Aside0.mk ((by rw [hg]; exact (below_size (by repeat (first | (with_reducible first | exact HB.out | apply below_alloc | apply pw_below_drewN | apply below_drew1) | exact HB.out))) : w.heap.size ≤ gb507)); have n3_ := Aside0.mk ((by rw [hg]; exact (below_size (by repeat (first | (with_reducible first | exact HB.out | apply below_alloc | apply pw_below_drewN | apply below_drew1) | exact HB.out))) : w.heap.size ≤ gb507)); clear HB; have HB := n0_; have BK507 := n1_; have GW507 := n2_; have GE507 := n3_; clear n0_ n1_ n2_ n3_; clear hb hbox hg) | ((with_reducible refine gate_dst (N := 3) rfl ?_); refine box_event ?hg (N := 3) ?hd (cs := #[.int .i64 a1_0, .slice A1_1 l1_1.length c1_1, .slice A1_2 l1_2.length c1_2]) (t := 50) ?hr ?_; (case hd => rfl); (case hg => rfl); (case hr => first | (go_simp; done) | (go_simp; rfl)); intro gb508 hg w14 hbox hb; have n0_ := Aside0.mk (blk_below (g := gb507) (o := .cells #[.int .i64 a0_0, .slice A0_1 l0_1.length c0_1, .slice A0_2 l0_2.length c0_2] 50 (0, 0)) (by (with_reducible repeat (first | refine blk_drewN ?_ _ | refine blk_drew ?_ | refine blk_alloc ?_ _)); exact BK507.out) hb); have n1_ := Aside0.mk (below_step (by repeat (first | (with_reducible first | exact HB.out | apply below_alloc | apply pw_below_drewN | apply below_drew1 | refine below_set ?_ GE507.out) | exact HB.out)) hb); have n2_ := Aside0.mk (hbox); have n3_ := Aside0.mk ((by rw [hg]; exact (below_size (by repeat (first | (with_reducible first | exact HB.out | apply below_alloc | apply pw_below_drewN | apply below_drew1 | refine below_set ?_ GE507.out) | exact HB.out))) : w.heap.size ≤ gb508)); have n4_ := Aside0.mk ((by rw [hg]; exact (below_size (by repeat (first | (with_reducible first | exact HB.out | apply below_alloc | apply pw_below_drewN | apply below_drew1 | refine below_set ?_ GE507.out) | exact HB.out))) : w.heap.size ≤ gb508)); have n5_ := Aside0.mk ((by rw [hg]; exact Nat.ne_of_lt (blk_lt (g := gb507) (o := .cells #[.int .i64 a0_0, .slice A0_1 l0_1.length c0_1, .slice A0_2 l0_2.length c0_2] 50 (0, 0)) (by (with_reducible repeat (first | refine blk_drewN ?_ _ | refine blk_drew ?_ | refine blk_alloc ?_ _)); exact BK507.out)) : gb507 ≠ gb508)); have n6_ := Aside0.mk ((by rw [hg]; exact Nat.ne_of_gt (blk_lt (g := gb507) (o := .cells #[.int .i64 a0_0, .slice A0_1 l0_1.length c0_1, .slice A0_2 l0_2.length c0_2] 50 (0, 0)) (by (with_reducible repeat (first | refine blk_drewN ?_ _ | refine blk_drew ?_ | refine blk_alloc ?_ _)); exact BK507.out)) : gb508 ≠ gb507)); clear BK507; clear HB; have BK507 := n0_; have HB := n1_; have BK508 := n2_; have GW508 := n3_; have GE508 := n4_; have NB507_508 := n5_; have NB508_507 := n6_; clear n0_ n1_ n2_ n3_ n4_ n5_ n6_; clear hb hbox hg; have hnb15 := NB507_508.out; have hnc15 := NB508_507.out; have hcz16_0 : w14.cell? ⟨gb507, 0, none⟩ = some (.int .i64 a0_0) := (blk_cell BK507.out 0).trans rfl; have hcz16_1 : w14.cell? ⟨gb507, 1, none⟩ = some (.slice A0_1 l0_1.length c0_1) := (blk_cell BK507.out 1).trans rfl; have hcz16_2 : w14.cell? ⟨gb507, 2, none⟩ = some (.slice A0_2 l0_2.length c0_2) := (blk_cell BK507.out 2).trans rfl; have hfz16_0 := blk_frozen BK507.out 0; have hfz16_1 := blk_frozen BK507.out 1; have hfz16_2 := blk_frozen BK507.out 2; have hcz17_0 : w14.cell? ⟨gb508, 0, none⟩ = some (.int .i64 a1_0) := (blk_cell BK508.out 0).trans rfl; have hcz17_1 : w14.cell? ⟨gb508, 1, none⟩ = some (.slice A1_1 l1_1.length c1_1) := (blk_cell BK508.out 1).trans rfl; have hcz17_2 : w14.cell? ⟨gb508, 2, none⟩ = some (.slice A1_2 l1_2.length c1_2) := (blk_cell BK508.out 2).trans rfl; have hfz17_0 := blk_frozen BK508.out 0; have hfz17_1 := blk_frozen BK508.out 1; have hfz17_2 := blk_frozen BK508.out 2) | ((with_reducible refine gate_callee (f := 67) rfl ?_); refine goesL_ (some 14) rfl rfl Try.func67 (by kernel_rfl) rfl #[.slice A0_1 l0_1.length c0_1, .slice A1_1 l1_1.length c1_1] rfl (by (try simp only [List.map_toArray, List.map_cons, List.map_nil]); first | done | rfl | (simp only [List.length_drop, List.length_take]; rfl)) ?_; (with_reducible refine (laws_eqStringS.calls k _ _ l0_1 _ _ l1_1 true _ ?side1 ?side2 ?side3 ?side4 A4.out).mono ?_); (case side1 => repeat (first | exact (Kd.C_below HR0_1.out HB.out) | (with_reducible refine Kd.C_alloc ?_ _) | (with_reducible refine Kd.C_drewN ?_ _) | (with_reducible refine Kd.C_drew ?_))); (case side2 => exact HC0_1.out); (case side3 => repeat (first | exact (Kd.C_below HR1_1.out HB.out) | (with_reducible refine Kd.C_alloc ?_ _) | (with_reducible refine Kd.C_drewN ?_ _) | (with_reducible refine Kd.C_drew ?_))); (case side4 => exact HC1_1.out); rintro e w' ⟨rfl, ⟨nd, rfl⟩⟩; refine ⟨_, rfl, ?_⟩) | ((with_reducible refine gate_callee (f := 67) rfl ?_); refine goesL_ (some 20) rfl rfl Try.func67 (by kernel_rfl) rfl #[.slice A0_2 l0_2.length c0_2, .slice A1_2 l1_2.length c1_2] rfl (by (try simp only [List.map_toArray, List.map_cons, List.map_nil]); first | done | rfl | (simp only [List.length_drop, List.length_take]; rfl)) ?_; (with_reducible refine (laws_eqStringS.calls k _ _ l0_2 _ _ l1_2 false _ ?side1 ?side2 ?side3 ?side4 A6.out).mono ?_); (case side1 => repeat (first | exact (Kd.C_below HR0_2.out (by repeat (first | (with_reducible first | exact HB.out | apply below_alloc | apply pw_below_drewN | apply below_drew1 | refine below_set ?_ GE507.out | refine below_set ?_ GE508.out) | exact HB.out))) | (with_reducible refine Kd.C_alloc ?_ _) | (with_reducible refine Kd.C_drewN ?_ _) | (with_reducible refine Kd.C_drew ?_))); (case side2 => exact HC0_2.out); (case side3 => repeat (first | exact (Kd.C_below HR1_2.out (by repeat (first | (with_reducible first | exact HB.out | apply below_alloc | apply pw_below_drewN | apply below_drew1 | refine below_set ?_ GE507.out | refine below_set ?_ GE508.out) | exact HB.out))) | (with_reducible refine Kd.C_alloc ?_ _) | (with_reducible refine Kd.C_drewN ?_ _) | (with_reducible refine Kd.C_drew ?_))); (case side4 => exact HC1_2.out); rintro e w' ⟨rfl, ⟨nd, rfl⟩⟩; refine ⟨_, rfl, ?_⟩))
    go_ret
    exact ⟨by first | rfl | (simp [errW_none, errW_some] <;> rfl) | (simp [*, errW_none, errW_some] <;> rfl), by repeat (first | (with_reducible first | exact HB.out | apply below_alloc | apply pw_below_drewN | apply below_drew1 | refine below_set ?_ GE507.out | refine below_set ?_ GE508.out) | exact HB.out)⟩
  ·replace c5 := Bool.eq_false_iff.mpr c5
   subst c5
   have H1 : (some false) = some r := by rw [if_neg (show ¬ (false = true) by decide)] at H; exact H
   clear H
   have H := H1
   clear H1
   obtain rfl := Option.some.inj H
   go_enter Try.func35, Try.ntmps35
   go_wp2_with (first | ((with_reducible refine gate_dst (N := 2) rfl ?_); refine box_event ?hg (N := 2) ?hd (cs := #[.int .i64 a0_0, .slice A0_1 l0_1.length c0_1, .slice A0_2 l0_2.length c0_2]) (t := 50) ?hr ?_; (case hd => rfl); (case hg => rfl); (case hr => first | (go_simp; done) | (go_simp; rfl)); intro gb507 hg w18 hbox hb; have n0_ := Aside0.mk (below_step (by repeat (first | (with_reducible first | exact HB.out | apply below_alloc | apply pw_below_drewN | apply below_drew1) | exact HB.out)) hb); have n1_ := Aside0.mk (hbox); have n2_ := Aside0.mk ((by rw [hg]; exact (below_size (by repeat (first | (with_reducible first | exact HB.out | apply below_alloc | apply pw_below_drewN | apply below_drew1) | exact HB.out))) : w.heap.size ≤ gb507)); have n3_ := Aside0.mk ((by rw [hg]; exact (below_size (by repeat (first | (with_reducible first | exact HB.out | apply below_alloc | apply pw_below_drewN | apply below_drew1) | exact HB.out))) : w.heap.size ≤ gb507)); clear HB; have HB := n0_; have BK507 := n1_; have GW507 := n2_; have GE507 := n3_; clear n0_ n1_ n2_ n3_; clear hb hbox hg) | ((with_reducible refine gate_dst (N := 3) rfl ?_); refine box_event ?hg (N := 3) ?hd (cs := #[.int .i64 a1_0, .slice A1_1 l1_1.length c1_1, .slice A1_2 l1_2.length c1_2]) (t := 50) ?hr ?_; (case hd => rfl); (case hg => rfl); (case hr => first | (go_simp; done) | (go_simp; rfl)); intro gb508 hg w19 hbox hb; have n0_ := Aside0.mk (blk_below (g := gb507) (o := .cells #[.int .i64 a0_0, .slice A0_1 l0_1.length c0_1, .slice A0_2 l0_2.length c0_2] 50 (0, 0)) (by (with_reducible repeat (first | refine blk_drewN ?_ _ | refine blk_drew ?_ | refine blk_alloc ?_ _)); exact BK507.out) hb); have n1_ := Aside0.mk (below_step (by repeat (first | (with_reducible first | exact HB.out | apply below_alloc | apply pw_below_drewN | apply below_drew1 | refine below_set ?_ GE507.out) | exact HB.out)) hb); have n2_ := Aside0.mk (hbox); have n3_ := Aside0.mk ((by rw [hg]; exact (below_size (by repeat (first | (with_reducible first | exact HB.out | apply below_alloc | apply pw_below_drewN | apply below_drew1 | refine below_set ?_ GE507.out) | exact HB.out))) : w.heap.size ≤ gb508)); have n4_ := Aside0.mk ((by rw [hg]; exact (below_size (by repeat (first | (with_reducible first | exact HB.out | apply below_alloc | apply pw_below_drewN | apply below_drew1 | refine below_set ?_ GE507.out) | exact HB.out))) : w.heap.size ≤ gb508)); have n5_ := Aside0.mk ((by rw [hg]; exact Nat.ne_of_lt (blk_lt (g := gb507) (o := .cells #[.int .i64 a0_0, .slice A0_1 l0_1.length c0_1, .slice A0_2 l0_2.length c0_2] 50 (0, 0)) (by (with_reducible repeat (first | refine blk_drewN ?_ _ | refine blk_drew ?_ | refine blk_alloc ?_ _)); exact BK507.out)) : gb507 ≠ gb508)); have n6_ := Aside0.mk ((by rw [hg]; exact Nat.ne_of_gt (blk_lt (g := gb507) (o := .cells #[.int .i64 a0_0, .slice A0_1 l0_1.length c0_1, .slice A0_2 l0_2.length c0_2] 50 (0, 0)) (by (with_reducible repeat (first | refine blk_drewN ?_ _ | refine blk_drew ?_ | refine blk_alloc ?_ _)); exact BK507.out)) : gb508 ≠ gb507)); clear BK507; clear HB; have BK507 := n0_; have HB := n1_; have BK508 := n2_; have GW508 := n3_; have GE508 := n4_; have NB507_508 := n5_; have NB508_507 := n6_; clear n0_ n1_ n2_ n3_ n4_ n5_ n6_; clear hb hbox hg; have hnb20 := NB507_508.out; have hnc20 := NB508_507.out; have hcz21_0 : w19.cell? ⟨gb507, 0, none⟩ = some (.int .i64 a0_0) := (blk_cell BK507.out 0).trans rfl; have hcz21_1 : w19.cell? ⟨gb507, 1, none⟩ = some (.slice A0_1 l0_1.length c0_1) := (blk_cell BK507.out 1).trans rfl; have hcz21_2 : w19.cell? ⟨gb507, 2, none⟩ = some (.slice A0_2 l0_2.length c0_2) := (blk_cell BK507.out 2).trans rfl; have hfz21_0 := blk_frozen BK507.out 0; have hfz21_1 := blk_frozen BK507.out 1; have hfz21_2 := blk_frozen BK507.out 2; have hcz22_0 : w19.cell? ⟨gb508, 0, none⟩ = some (.int .i64 a1_0) := (blk_cell BK508.out 0).trans rfl; have hcz22_1 : w19.cell? ⟨gb508, 1, none⟩ = some (.slice A1_1 l1_1.length c1_1) := (blk_cell BK508.out 1).trans rfl; have hcz22_2 : w19.cell? ⟨gb508, 2, none⟩ = some (.slice A1_2 l1_2.length c1_2) := (blk_cell BK508.out 2).trans rfl; have hfz22_0 := blk_frozen BK508.out 0; have hfz22_1 := blk_frozen BK508.out 1; have hfz22_2 := blk_frozen BK508.out 2) | ((with_reducible refine gate_callee (f := 67) rfl ?_); refine goesL_ (some 14) rfl rfl Try.func67 (by kernel_rfl) rfl #[.slice A0_1 l0_1.length c0_1, .slice A1_1 l1_1.length c1_1] rfl (by (try simp only [List.map_toArray, List.map_cons, List.map_nil]); first | done | rfl | (simp only [List.length_drop, List.length_take]; rfl)) ?_; (with_reducible refine (laws_eqStringS.calls k _ _ l0_1 _ _ l1_1 false _ ?side1 ?side2 ?side3 ?side4 A4.out).mono ?_); (case side1 => repeat (first | exact (Kd.C_below HR0_1.out HB.out) | (with_reducible refine Kd.C_alloc ?_ _) | (with_reducible refine Kd.C_drewN ?_ _) | (with_reducible refine Kd.C_drew ?_))); (case side2 => exact HC0_1.out); (case side3 => repeat (first | exact (Kd.C_below HR1_1.out HB.out) | (with_reducible refine Kd.C_alloc ?_ _) | (with_reducible refine Kd.C_drewN ?_ _) | (with_reducible refine Kd.C_drew ?_))); (case side4 => exact HC1_1.out); rintro e w' ⟨rfl, ⟨nd, rfl⟩⟩; refine ⟨_, rfl, ?_⟩))
   go_ret
   exact ⟨by first | rfl | (simp [errW_none, errW_some] <;> rfl) | (simp [*, errW_none, errW_some] <;> rfl), by repeat (first | (with_reducible first | exact HB.out | apply below_alloc | apply pw_below_drewN | apply below_drew1 | refine below_set ?_ GE507.out | refine below_set ?_ GE508.out) | exact HB.out)⟩
 ·rw [if_neg c3] at H
  have c3b0 : (a0_0 == a1_0) = false := beq_eq_false_iff_ne.mpr c3
  have c3b1 : (a0_0 != a1_0) = true := bne_iff_ne.mpr c3
  obtain rfl := Option.some.inj H
  go_enter Try.func35, Try.ntmps35
  go_wp2_with (first | ((with_reducible refine gate_dst (N := 2) rfl ?_); refine box_event ?hg (N := 2) ?hd (cs := #[.int .i64 a0_0, .slice A0_1 l0_1.length c0_1, .slice A0_2 l0_2.length c0_2]) (t := 50) ?hr ?_; (case hd => rfl); (case hg => rfl); (case hr => first | (go_simp; done) | (go_simp; rfl)); intro gb507 hg w23 hbox hb; have n0_ := Aside0.mk (below_step (by repeat (first | (with_reducible first | exact HB.out | apply below_alloc | apply pw_below_drewN | apply below_drew1) | exact HB.out)) hb); have n1_ := Aside0.mk (hbox); have n2_ := Aside0.mk ((by rw [hg]; exact (below_size (by repeat (first | (with_reducible first | exact HB.out | apply below_alloc | apply pw_below_drewN | apply below_drew1) | exact HB.out))) : w.heap.size ≤ gb507)); have n3_ := Aside0.mk ((by rw [hg]; exact (below_size (by repeat (first | (with_reducible first | exact HB.out | apply below_alloc | apply pw_below_drewN | apply below_drew1) | exact HB.out))) : w.heap.size ≤ gb507)); clear HB; have HB := n0_; have BK507 := n1_; have GW507 := n2_; have GE507 := n3_; clear n0_ n1_ n2_ n3_; clear hb hbox hg) | ((with_reducible refine gate_dst (N := 3) rfl ?_); refine box_event ?hg (N := 3) ?hd (cs := #[.int .i64 a1_0, .slice A1_1 l1_1.length c1_1, .slice A1_2 l1_2.length c1_2]) (t := 50) ?hr ?_; (case hd => rfl); (case hg => rfl); (case hr => first | (go_simp; done) | (go_simp; rfl)); intro gb508 hg w24 hbox hb; have n0_ := Aside0.mk (blk_below (g := gb507) (o := .cells #[.int .i64 a0_0, .slice A0_1 l0_1.length c0_1, .slice A0_2 l0_2.length c0_2] 50 (0, 0)) (by (with_reducible repeat (first | refine blk_drewN ?_ _ | refine blk_drew ?_ | refine blk_alloc ?_ _)); exact BK507.out) hb); have n1_ := Aside0.mk (below_step (by repeat (first | (with_reducible first | exact HB.out | apply below_alloc | apply pw_below_drewN | apply below_drew1 | refine below_set ?_ GE507.out) | exact HB.out)) hb); have n2_ := Aside0.mk (hbox); have n3_ := Aside0.mk ((by rw [hg]; exact (below_size (by repeat (first | (with_reducible first | exact HB.out | apply below_alloc | apply pw_below_drewN | apply below_drew1 | refine below_set ?_ GE507.out) | exact HB.out))) : w.heap.size ≤ gb508)); have n4_ := Aside0.mk ((by rw [hg]; exact (below_size (by repeat (first | (with_reducible first | exact HB.out | apply below_alloc | apply pw_below_drewN | apply below_drew1 | refine below_set ?_ GE507.out) | exact HB.out))) : w.heap.size ≤ gb508)); have n5_ := Aside0.mk ((by rw [hg]; exact Nat.ne_of_lt (blk_lt (g := gb507) (o := .cells #[.int .i64 a0_0, .slice A0_1 l0_1.length c0_1, .slice A0_2 l0_2.length c0_2] 50 (0, 0)) (by (with_reducible repeat (first | refine blk_drewN ?_ _ | refine blk_drew ?_ | refine blk_alloc ?_ _)); exact BK507.out)) : gb507 ≠ gb508)); have n6_ := Aside0.mk ((by rw [hg]; exact Nat.ne_of_gt (blk_lt (g := gb507) (o := .cells #[.int .i64 a0_0, .slice A0_1 l0_1.length c0_1, .slice A0_2 l0_2.length c0_2] 50 (0, 0)) (by (with_reducible repeat (first | refine blk_drewN ?_ _ | refine blk_drew ?_ | refine blk_alloc ?_ _)); exact BK507.out)) : gb508 ≠ gb507)); clear BK507; clear HB; have BK507 := n0_; have HB := n1_; have BK508 := n2_; have GW508 := n3_; have GE508 := n4_; have NB507_508 := n5_; have NB508_507 := n6_; clear n0_ n1_ n2_ n3_ n4_ n5_ n6_; clear hb hbox hg; have hnb25 := NB507_508.out; have hnc25 := NB508_507.out; have hcz26_0 : w24.cell? ⟨gb507, 0, none⟩ = some (.int .i64 a0_0) := (blk_cell BK507.out 0).trans rfl; have hcz26_1 : w24.cell? ⟨gb507, 1, none⟩ = some (.slice A0_1 l0_1.length c0_1) := (blk_cell BK507.out 1).trans rfl; have hcz26_2 : w24.cell? ⟨gb507, 2, none⟩ = some (.slice A0_2 l0_2.length c0_2) := (blk_cell BK507.out 2).trans rfl; have hfz26_0 := blk_frozen BK507.out 0; have hfz26_1 := blk_frozen BK507.out 1; have hfz26_2 := blk_frozen BK507.out 2; have hcz27_0 : w24.cell? ⟨gb508, 0, none⟩ = some (.int .i64 a1_0) := (blk_cell BK508.out 0).trans rfl; have hcz27_1 : w24.cell? ⟨gb508, 1, none⟩ = some (.slice A1_1 l1_1.length c1_1) := (blk_cell BK508.out 1).trans rfl; have hcz27_2 : w24.cell? ⟨gb508, 2, none⟩ = some (.slice A1_2 l1_2.length c1_2) := (blk_cell BK508.out 2).trans rfl; have hfz27_0 := blk_frozen BK508.out 0; have hfz27_1 := blk_frozen BK508.out 1; have hfz27_2 := blk_frozen BK508.out 2))
  go_ret
  exact ⟨by first | rfl | (simp [errW_none, errW_some] <;> rfl) | (simp [*, errW_none, errW_some] <;> rfl), by repeat (first | (with_reducible first | exact HB.out | apply below_alloc | apply pw_below_drewN | apply below_drew1 | refine below_set ?_ GE507.out | refine below_set ?_ GE508.out) | exact HB.out)⟩
end Go.Proofs.Ytfajabboibcgpaa.PA
end
section
namespace Go.Proofs.Ytfajabboibcgpaa.PA
open Go.RowKit Go.Proofs.YtfajabboibcgpaaW.PrintWords Go.Proofs.YtfajabboibcgpaaW.PrintLast Go.Proofs.YtfajabboibcgpaaW.PrintMore
attribute [local go_sem] max2_int min2_int max_two min_two max_three min_three max_four min_four   -- for this text's walks alone
set_option linter.unusedVariables false
set_option linter.unusedSimpArgs false
def laws_FnExactCheckSeal.j0 : Nat → Bool → Int → List ByteArray → List ByteArray → Int → List ByteArray → List ByteArray → Option (Bool)
 | 0, _, _, _, _, _, _, _ => none
 | k + 1, x48, x512000, x512001, x512002, x530000, x530001, x530002 => if x48 = true then (some false) else ((laws_toSeal.f k x512000 x512001 x512002).bind fun bt532 => ((laws_eqSeal.f k x530000 x530001 x530002 bt532.1 bt532.2.1 bt532.2.2).bind fun t539 => (if t539 = true then (some true) else (some false))))
def laws_FnExactCheckSeal.f (k : Nat) (a0 : ByteArray) (a1 : ByteArray) (a2_0 : Int) (l2_1 : List ByteArray) (l2_2 : List ByteArray) : Option (Bool) := if (a0.size : Int) > 1048576 then (some true) else (if (a1.size : Int) > 1048576 then (some true) else ((laws_szSeal.f k a2_0 l2_1 l2_2 1048576).bind fun t512 => (if t512 < 0 then (some true) else ((laws_toSeal.f k a2_0 l2_1 l2_2).bind fun bt513 => ((spec_CheckSeal.f k a0 a1 bt513.1 bt513.2.1 bt513.2.2).bind fun bt520 => ((laws_toSeal.f k a2_0 l2_1 l2_2).bind fun bt522 => ((impl_CheckSeal.f k a0 a1 bt522.1 bt522.2.1 bt522.2.2).bind fun bt530 => (if (bt530.1 != bt520.1) = true then (laws_FnExactCheckSeal.j0 k true a2_0 l2_1 l2_2 bt522.1 bt522.2.1 bt522.2.2) else (laws_FnExactCheckSeal.j0 k (bt530.2 != bt520.2) a2_0 l2_1 l2_2 bt522.1 bt522.2.1 bt522.2.2)))))))))
set_option maxHeartbeats 8000000 in
set_option maxRecDepth 100000 in
theorem laws_FnExactCheckSeal.calls (k : Nat) (a0 : ByteArray) (a1 : ByteArray) (a2_0 : Int) (A2_1 : Option Addr) (c2_1 : Nat) (l2_1 : List ByteArray) (A2_2 : Option Addr) (c2_2 : Nat) (l2_2 : List ByteArray) (r : Bool) (w : World) (hr2_1 : Kd.C Kd.string w A2_1 l2_1.length l2_1) (hc2_1 : l2_1.length ≤ c2_1) (hr2_2 : Kd.C Kd.string w A2_2 l2_2.length l2_2) (hc2_2 : l2_2.length ≤ c2_2) (h : laws_FnExactCheckSeal.f k a0 a1 a2_0 l2_1 l2_2 = some r) :
  Calls Try.prog 5 #[.string a0, .string a1, .agg #[.int .i64 a2_0, .slice A2_1 l2_1.length c2_1, .slice A2_2 l2_2.length c2_2]] w fun e w' => e = .returned (.bool r) ∧ Below w.heap.size w w' := by
 have hu47 := Try.underlying47
 have hu50 := Try.underlying50
 have HR2_1 := Aside0.mk hr2_1
 have HC2_1 := Aside0.mk hc2_1
 clear hr2_1 hc2_1
 have HR2_2 := Aside0.mk hr2_2
 have HC2_2 := Aside0.mk hc2_2
 clear hr2_2 hc2_2
 have HB := Aside0.mk (Below.refl w.heap.size w)
 have H : (if (a0.size : Int) > 1048576 then (some true) else (if (a1.size : Int) > 1048576 then (some true) else ((laws_szSeal.f k a2_0 l2_1 l2_2 1048576).bind fun t512 => (if t512 < 0 then (some true) else ((laws_toSeal.f k a2_0 l2_1 l2_2).bind fun bt513 => ((spec_CheckSeal.f k a0 a1 bt513.1 bt513.2.1 bt513.2.2).bind fun bt520 => ((laws_toSeal.f k a2_0 l2_1 l2_2).bind fun bt522 => ((impl_CheckSeal.f k a0 a1 bt522.1 bt522.2.1 bt522.2.2).bind fun bt530 => (if (bt530.1 != bt520.1) = true then (laws_FnExactCheckSeal.j0 k true a2_0 l2_1 l2_2 bt522.1 bt522.2.1 bt522.2.2) else (laws_FnExactCheckSeal.j0 k (bt530.2 != bt520.2) a2_0 l2_1 l2_2 bt522.1 bt522.2.1 bt522.2.2)))))))))) = some r := h
 clear h
 by_cases c4 : (a0.size : Int) > 1048576
 ·rw [if_pos c4] at H
  have c4b0 : decide (1048576 < (a0.size : Int)) = true := decide_eq_true c4
  have c4b1 : decide (1048576 < a0.size) = true := decide_eq_true (by omega)
  clear c4
  obtain rfl := Option.some.inj H
  go_enter Try.func5, Try.ntmps5
  go_wp2_with (first | ((with_reducible refine gate_dst (N := 5) rfl ?_); refine box_event ?hg (N := 5) ?hd (cs := #[.int .i64 a2_0, .slice A2_1 l2_1.length c2_1, .slice A2_2 l2_2.length c2_2]) (t := 47) ?hr ?_; (case hd => rfl); (case hg => rfl); (case hr => first | (go_simp; done) | (go_simp; rfl)); intro gb511 hg w5 hbox hb; have n0_ := Aside0.mk (below_step (by repeat (first | (with_reducible first | exact HB.out | apply below_alloc | apply pw_below_drewN | apply below_drew1) | exact HB.out)) hb); have n1_ := Aside0.mk (hbox); have n2_ := Aside0.mk ((by rw [hg]; exact (below_size (by repeat (first | (with_reducible first | exact HB.out | apply below_alloc | apply pw_below_drewN | apply below_drew1) | exact HB.out))) : w.heap.size ≤ gb511)); have n3_ := Aside0.mk ((by rw [hg]; exact (below_size (by repeat (first | (with_reducible first | exact HB.out | apply below_alloc | apply pw_below_drewN | apply below_drew1) | exact HB.out))) : w.heap.size ≤ gb511)); clear HB; have HB := n0_; have BK511 := n1_; have GW511 := n2_; have GE511 := n3_; clear n0_ n1_ n2_ n3_; clear hb hbox hg))
  go_ret
  exact ⟨by first | rfl | (simp [errW_none, errW_some] <;> rfl) | (simp [*, errW_none, errW_some] <;> rfl), by repeat (first | (with_reducible first | exact HB.out | apply below_alloc | apply pw_below_drewN | apply below_drew1 | refine below_set ?_ GE511.out) | exact HB.out)⟩
 ·rw [if_neg c4] at H
  have c4b0 : decide (1048576 < (a0.size : Int)) = false := decide_eq_false c4
  have c4b1 : decide (1048576 < a0.size) = false := decide_eq_false (by omega)
  clear c4
  by_cases c6 : (a1.size : Int) > 1048576
  ·rw [if_pos c6] at H
   have c6b0 : decide (1048576 < (a1.size : Int)) = true := decide_eq_true c6
   have c6b1 : decide (1048576 < a1.size) = true := decide_eq_true (by omega)
   clear c6
   obtain rfl := Option.some.inj H
   go_enter Try.func5, Try.ntmps5
   go_wp2_with (first | ((with_reducible refine gate_dst (N := 5) rfl ?_); refine box_event ?hg (N := 5) ?hd (cs := #[.int .i64 a2_0, .slice A2_1 l2_1.length c2_1, .slice A2_2 l2_2.length c2_2]) (t := 47) ?hr ?_; (case hd => rfl); (case hg => rfl); (case hr => first | (go_simp; done) | (go_simp; rfl)); intro gb511 hg w7 hbox hb; have n0_ := Aside0.mk (below_step (by repeat (first | (with_reducible first | exact HB.out | apply below_alloc | apply pw_below_drewN | apply below_drew1) | exact HB.out)) hb); have n1_ := Aside0.mk (hbox); have n2_ := Aside0.mk ((by rw [hg]; exact (below_size (by repeat (first | (with_reducible first | exact HB.out | apply below_alloc | apply pw_below_drewN | apply below_drew1) | exact HB.out))) : w.heap.size ≤ gb511)); have n3_ := Aside0.mk ((by rw [hg]; exact (below_size (by repeat (first | (with_reducible first | exact HB.out | apply below_alloc | apply pw_below_drewN | apply below_drew1) | exact HB.out))) : w.heap.size ≤ gb511)); clear HB; have HB := n0_; have BK511 := n1_; have GW511 := n2_; have GE511 := n3_; clear n0_ n1_ n2_ n3_; clear hb hbox hg))
   go_ret
   exact ⟨by first | rfl | (simp [errW_none, errW_some] <;> rfl) | (simp [*, errW_none, errW_some] <;> rfl), by repeat (first | (with_reducible first | exact HB.out | apply below_alloc | apply pw_below_drewN | apply below_drew1 | refine below_set ?_ GE511.out) | exact HB.out)⟩
  ·rw [if_neg c6] at H
   have c6b0 : decide (1048576 < (a1.size : Int)) = false := decide_eq_false c6
   have c6b1 : decide (1048576 < a1.size) = false := decide_eq_false (by omega)
   clear c6
   replace H := Option.bind_eq_some_iff.mp H
   obtain ⟨t512, A80, H⟩ := H
   replace H : (if t512 < 0 then (some true) else ((laws_toSeal.f k a2_0 l2_1 l2_2).bind fun bt513 => ((spec_CheckSeal.f k a0 a1 bt513.1 bt513.2.1 bt513.2.2).bind fun bt520 => ((laws_toSeal.f k a2_0 l2_1 l2_2).bind fun bt522 => ((impl_CheckSeal.f k a0 a1 bt522.1 bt522.2.1 bt522.2.2).bind fun bt530 => (if (bt530.1 != bt520.1) = true then (laws_FnExactCheckSeal.j0 k true a2_0 l2_1 l2_2 bt522.1 bt522.2.1 bt522.2.2) else (laws_FnExactCheckSeal.j0 k (bt530.2 != bt520.2) a2_0 l2_1 l2_2 bt522.1 bt522.2.1 bt522.2.2))))))) = some r := H
   have A8 := Aside0.mk A80
   clear A80
   by_cases c9 : t512 < 0
   ·rw [if_pos c9] at H
    have c9b0 : decide (t512 < 0) = true := decide_eq_true c9
    clear c9
    obtain rfl := Option.some.inj H
    go_enter Try.func5, Try.ntmps5
    go_wp2_with (first | ((with_reducible refine gate_dst (N := 5) rfl ?_); refine box_event ?hg (N := 5) ?hd (cs := #[.int .i64 a2_0, .slice A2_1 l2_1.length c2_1, .slice A2_2 l2_2.length c2_2]) (t := 47) ?hr ?_; (case hd => rfl); (case hg => rfl); (case hr => first | (go_simp; done) | (go_simp; rfl)); intro gb511 hg w10 hbox hb; have n0_ := Aside0.mk (below_step (by repeat (first | (with_reducible first | exact HB.out | apply below_alloc | apply pw_below_drewN | apply below_drew1) | exact HB.out)) hb); have n1_ := Aside0.mk (hbox); have n2_ := Aside0.mk ((by rw [hg]; exact (below_size (by repeat (first | (with_reducible first | exact HB.out | apply below_alloc | apply pw_below_drewN | apply below_drew1) | exact HB.out))) : w.heap.size ≤ gb511)); have n3_ := Aside0.mk ((by rw [hg]; exact (below_size (by repeat (first | (with_reducible first | exact HB.out | apply below_alloc | apply pw_below_drewN | apply below_drew1) | exact HB.out))) : w.heap.size ≤ gb511)); clear HB; have HB := n0_; have BK511 := n1_; have GW511 := n2_; have GE511 := n3_; clear n0_ n1_ n2_ n3_; clear hb hbox hg; have hcz11_0 : w10.cell? ⟨gb511, 0, none⟩ = some (.int .i64 a2_0) := (blk_cell BK511.out 0).trans rfl; have hcz11_1 : w10.cell? ⟨gb511, 1, none⟩ = some (.slice A2_1 l2_1.length c2_1) := (blk_cell BK511.out 1).trans rfl; have hcz11_2 : w10.cell? ⟨gb511, 2, none⟩ = some (.slice A2_2 l2_2.length c2_2) := (blk_cell BK511.out 2).trans rfl; have hfz11_0 := blk_frozen BK511.out 0; have hfz11_1 := blk_frozen BK511.out 1; have hfz11_2 := blk_frozen BK511.out 2) | ((with_reducible refine gate_callee (f := 31) rfl ?_); refine goesL_ (some 21) rfl rfl Try.func31 (by kernel_rfl) rfl #[.agg #[.int .i64 a2_0, .slice A2_1 l2_1.length c2_1, .slice A2_2 l2_2.length c2_2], .int .i64 1048576] rfl (by (try simp only [List.map_toArray, List.map_cons, List.map_nil]); first | done | rfl | (simp only [List.length_drop, List.length_take]; rfl)) ?_; (with_reducible refine (laws_szSeal.calls k a2_0 _ _ l2_1 _ _ l2_2 1048576 t512 _ ?side1 ?side2 ?side3 ?side4 A8.out).mono ?_); (case side1 => repeat (first | exact (Kd.C_below HR2_1.out HB.out) | (with_reducible refine Kd.C_alloc ?_ _) | (with_reducible refine Kd.C_drewN ?_ _) | (with_reducible refine Kd.C_drew ?_))); (case side2 => exact HC2_1.out); (case side3 => repeat (first | exact (Kd.C_below HR2_2.out HB.out) | (with_reducible refine Kd.C_alloc ?_ _) | (with_reducible refine Kd.C_drewN ?_ _) | (with_reducible refine Kd.C_drew ?_))); (case side4 => exact HC2_2.out); rintro e w12 ⟨rfl, hb⟩; refine ⟨_, rfl, ?_⟩; have n0_ := Aside0.mk (blk_below (g := gb511) (o := .cells #[.int .i64 a2_0, .slice A2_1 l2_1.length c2_1, .slice A2_2 l2_2.length c2_2] 47 (0, 0)) (by (with_reducible repeat (first | refine blk_drewN ?_ _ | refine blk_drew ?_ | refine blk_alloc ?_ _)); exact BK511.out) hb); have n1_ := Aside0.mk (below_step (by repeat (first | (with_reducible first | exact HB.out | apply below_alloc | apply pw_below_drewN | apply below_drew1 | refine below_set ?_ GE511.out) | exact HB.out)) hb); clear BK511; clear HB; have BK511 := n0_; have HB := n1_; clear n0_ n1_; (try clear hb); (try clear hb2); (try clear hk); (try clear hi)))
    go_ret
    exact ⟨by first | rfl | (simp [errW_none, errW_some] <;> rfl) | (simp [*, errW_none, errW_some] <;> rfl), by repeat (first | (with_reducible first | exact HB.out | apply below_alloc | apply pw_below_drewN | apply below_drew1 | refine below_set ?_ GE511.out) | exact HB.out)⟩
   ·rw [if_neg c9] at H
    have c9b0 : decide (t512 < 0) = false := decide_eq_false c9
    clear c9
    replace H := Option.bind_eq_some_iff.mp H
    obtain ⟨⟨t513, t514, t517⟩, A130, H⟩ := H
    replace H : ((spec_CheckSeal.f k a0 a1 t513 t514 t517).bind fun bt520 => ((laws_toSeal.f k a2_0 l2_1 l2_2).bind fun bt522 => ((impl_CheckSeal.f k a0 a1 bt522.1 bt522.2.1 bt522.2.2).bind fun bt530 => (if (bt530.1 != bt520.1) = true then (laws_FnExactCheckSeal.j0 k true a2_0 l2_1 l2_2 bt522.1 bt522.2.1 bt522.2.2) else (laws_FnExactCheckSeal.j0 k (bt530.2 != bt520.2) a2_0 l2_1 l2_2 bt522.1 bt522.2.1 bt522.2.2))))) = some r := H
    have A13 := Aside0.mk A130
    clear A130
    replace H := Option.bind_eq_some_iff.mp H
    obtain ⟨⟨t520, t521⟩, A140, H⟩ := H
    replace H : ((laws_toSeal.f k a2_0 l2_1 l2_2).bind fun bt522 => ((impl_CheckSeal.f k a0 a1 bt522.1 bt522.2.1 bt522.2.2).bind fun bt530 => (if (bt530.1 != t520) = true then (laws_FnExactCheckSeal.j0 k true a2_0 l2_1 l2_2 bt522.1 bt522.2.1 bt522.2.2) else (laws_FnExactCheckSeal.j0 k (bt530.2 != t521) a2_0 l2_1 l2_2 bt522.1 bt522.2.1 bt522.2.2)))) = some r := H
    have A14 := Aside0.mk A140
    clear A140
    replace H := Option.bind_eq_some_iff.mp H
    obtain ⟨⟨t522, t523, t526⟩, A150, H⟩ := H
    replace H : ((impl_CheckSeal.f k a0 a1 t522 t523 t526).bind fun bt530 => (if (bt530.1 != t520) = true then (laws_FnExactCheckSeal.j0 k true a2_0 l2_1 l2_2 t522 t523 t526) else (laws_FnExactCheckSeal.j0 k (bt530.2 != t521) a2_0 l2_1 l2_2 t522 t523 t526))) = some r := H
    have A15 := Aside0.mk A150
    clear A150
    replace H := Option.bind_eq_some_iff.mp H
    obtain ⟨⟨t530, t531⟩, A160, H⟩ := H
    replace H : (if (t530 != t520) = true then (laws_FnExactCheckSeal.j0 k true a2_0 l2_1 l2_2 t522 t523 t526) else (laws_FnExactCheckSeal.j0 k (t531 != t521) a2_0 l2_1 l2_2 t522 t523 t526)) = some r := H
    have A16 := Aside0.mk A160
    clear A160
    have HC17 := Aside0.mk H
    clear H
    go_enter Try.func5, Try.ntmps5
    go_upto_region 12 with (first | ((with_reducible refine gate_dst (N := 5) rfl ?_); refine box_event ?hg (N := 5) ?hd (cs := #[.int .i64 a2_0, .slice A2_1 l2_1.length c2_1, .slice A2_2 l2_2.length c2_2]) (t := 47) ?hr ?_; (case hd => rfl); (case hg => rfl); (case hr => first | (go_simp; done) | (go_simp; rfl)); intro gb511 hg w18 hbox hb; have n0_ := Aside0.mk (below_step (by repeat (first | (with_reducible first | exact HB.out | apply below_alloc | apply pw_below_drewN | apply below_drew1) | exact HB.out)) hb); have n1_ := Aside0.mk (hbox); have n2_ := Aside0.mk ((by rw [hg]; exact (below_size (by repeat (first | (with_reducible first | exact HB.out | apply below_alloc | apply pw_below_drewN | apply below_drew1) | exact HB.out))) : w.heap.size ≤ gb511)); have n3_ := Aside0.mk ((by rw [hg]; exact (below_size (by repeat (first | (with_reducible first | exact HB.out | apply below_alloc | apply pw_below_drewN | apply below_drew1) | exact HB.out))) : w.heap.size ≤ gb511)); clear HB; have HB := n0_; have BK511 := n1_; have GW511 := n2_; have GE511 := n3_; clear n0_ n1_ n2_ n3_; clear hb hbox hg; have hcz19_0 : w18.cell? ⟨gb511, 0, none⟩ = some (.int .i64 a2_0) := (blk_cell BK511.out 0).trans rfl; have hcz19_1 : w18.cell? ⟨gb511, 1, none⟩ = some (.slice A2_1 l2_1.length c2_1) := (blk_cell BK511.out 1).trans rfl; have hcz19_2 : w18.cell? ⟨gb511, 2, none⟩ = some (.slice A2_2 l2_2.length c2_2) := (blk_cell BK511.out 2).trans rfl; have hfz19_0 := blk_frozen BK511.out 0; have hfz19_1 := blk_frozen BK511.out 1; have hfz19_2 := blk_frozen BK511.out 2) | ((with_reducible refine gate_callee (f := 31) rfl ?_); refine goesL_ (some 21) rfl rfl Try.func31 (by kernel_rfl) rfl #[.agg #[.int .i64 a2_0, .slice A2_1 l2_1.length c2_1, .slice A2_2 l2_2.length c2_2], .int .i64 1048576] rfl (by (try simp only [List.map_toArray, List.map_cons, List.map_nil]); first | done | rfl | (simp only [List.length_drop, List.length_take]; rfl)) ?_; (with_reducible refine (laws_szSeal.calls k a2_0 _ _ l2_1 _ _ l2_2 1048576 t512 _ ?side1 ?side2 ?side3 ?side4 A8.out).mono ?_); (case side1 => repeat (first | exact (Kd.C_below HR2_1.out HB.out) | (with_reducible refine Kd.C_alloc ?_ _) | (with_reducible refine Kd.C_drewN ?_ _) | (with_reducible refine Kd.C_drew ?_))); (case side2 => exact HC2_1.out); (case side3 => repeat (first | exact (Kd.C_below HR2_2.out HB.out) | (with_reducible refine Kd.C_alloc ?_ _) | (with_reducible refine Kd.C_drewN ?_ _) | (with_reducible refine Kd.C_drew ?_))); (case side4 => exact HC2_2.out); rintro e w20 ⟨rfl, hb⟩; refine ⟨_, rfl, ?_⟩; have n0_ := Aside0.mk (blk_below (g := gb511) (o := .cells #[.int .i64 a2_0, .slice A2_1 l2_1.length c2_1, .slice A2_2 l2_2.length c2_2] 47 (0, 0)) (by (with_reducible repeat (first | refine blk_drewN ?_ _ | refine blk_drew ?_ | refine blk_alloc ?_ _)); exact BK511.out) hb); have n1_ := Aside0.mk (below_step (by repeat (first | (with_reducible first | exact HB.out | apply below_alloc | apply pw_below_drewN | apply below_drew1 | refine below_set ?_ GE511.out) | exact HB.out)) hb); clear BK511; clear HB; have BK511 := n0_; have HB := n1_; clear n0_ n1_; (try clear hb); (try clear hb2); (try clear hk); (try clear hi); have hcz21_0 : w20.cell? ⟨gb511, 0, none⟩ = some (.int .i64 a2_0) := (blk_cell BK511.out 0).trans rfl; have hcz21_1 : w20.cell? ⟨gb511, 1, none⟩ = some (.slice A2_1 l2_1.length c2_1) := (blk_cell BK511.out 1).trans rfl; have hcz21_2 : w20.cell? ⟨gb511, 2, none⟩ = some (.slice A2_2 l2_2.length c2_2) := (blk_cell BK511.out 2).trans rfl; have hfz21_0 := blk_frozen BK511.out 0; have hfz21_1 := blk_frozen BK511.out 1; have hfz21_2 := blk_frozen BK511.out 2) | ((with_reducible refine gate_callee (f := 33) rfl ?_); refine goesL_ (some 28) rfl rfl Try.func33 (by kernel_rfl) rfl #[.agg #[.int .i64 a2_0, .slice A2_1 l2_1.length c2_1, .slice A2_2 l2_2.length c2_2]] rfl (by (try simp only [List.map_toArray, List.map_cons, List.map_nil]); first | done | rfl | (simp only [List.length_drop, List.length_take]; rfl)) ?_; (with_reducible refine (laws_toSeal.calls k a2_0 _ _ l2_1 _ _ l2_2 t513 t514 t517 _ ?side1 ?side2 ?side3 ?side4 A13.out).mono ?_); (case side1 => repeat (first | exact (Kd.C_below HR2_1.out HB.out) | (with_reducible refine Kd.C_alloc ?_ _) | (with_reducible refine Kd.C_drewN ?_ _) | (with_reducible refine Kd.C_drew ?_))); (case side2 => exact HC2_1.out); (case side3 => repeat (first | exact (Kd.C_below HR2_2.out HB.out) | (with_reducible refine Kd.C_alloc ?_ _) | (with_reducible refine Kd.C_drewN ?_ _) | (with_reducible refine Kd.C_drew ?_))); (case side4 => exact HC2_2.out); rintro e w22 ⟨v515, v518, rfl, ho0, ho1, hb⟩; refine ⟨_, rfl, ?_⟩; have n0_ := Aside0.mk (Kd.R_lower ho0 (below_size (by repeat (first | (with_reducible first | exact HB.out | apply below_alloc | apply pw_below_drewN | apply below_drew1 | refine below_set ?_ GE511.out) | exact HB.out)))); have n1_ := Aside0.mk (Kd.R_lower ho1 (below_size (by repeat (first | (with_reducible first | exact HB.out | apply below_alloc | apply pw_below_drewN | apply below_drew1 | refine below_set ?_ GE511.out) | exact HB.out)))); have n2_ := Aside0.mk (blk_below (g := gb511) (o := .cells #[.int .i64 a2_0, .slice A2_1 l2_1.length c2_1, .slice A2_2 l2_2.length c2_2] 47 (0, 0)) (by (with_reducible repeat (first | refine blk_drewN ?_ _ | refine blk_drew ?_ | refine blk_alloc ?_ _)); exact BK511.out) hb); have n3_ := Aside0.mk (below_step (by repeat (first | (with_reducible first | exact HB.out | apply below_alloc | apply pw_below_drewN | apply below_drew1 | refine below_set ?_ GE511.out) | exact HB.out)) hb); clear BK511; clear HB; have HO516 := n0_; have HO519 := n1_; have BK511 := n2_; have HB := n3_; clear n0_ n1_ n2_ n3_; (try clear hb); (try clear hb2); (try clear hk); (try clear hi); (try clear ho0); (try clear ho1); obtain ⟨Ao23, co23, eo23⟩ := Kd.R_slice HO516.out; subst eo23; obtain ⟨Ao24, co24, eo24⟩ := Kd.R_slice HO519.out; subst eo24) | ((with_reducible refine gate_callee (f := 32) rfl ?_); refine goesL_ (some 29) rfl rfl Try.func32 (by kernel_rfl) rfl #[.string a0, .string a1, .agg #[.int .i64 t513, .slice Ao23 t514.length co23, .slice Ao24 t517.length co24]] rfl (by (try simp only [List.map_toArray, List.map_cons, List.map_nil]); first | done | rfl | (simp only [List.length_drop, List.length_take]; rfl)) ?_; (with_reducible refine (spec_CheckSeal.calls k a0 a1 t513 _ _ t514 _ _ t517 t520 t521 _ ?side1 ?side2 ?side3 ?side4 A14.out).mono ?_); (case side1 => repeat (first | exact (Kd.R_reads' HO516.out).2.2 | (with_reducible refine Kd.C_alloc ?_ _) | (with_reducible refine Kd.C_drewN ?_ _) | (with_reducible refine Kd.C_drew ?_))); (case side2 => exact (Kd.R_reads' HO516.out).2.1); (case side3 => repeat (first | exact (Kd.R_reads' HO519.out).2.2 | (with_reducible refine Kd.C_alloc ?_ _) | (with_reducible refine Kd.C_drewN ?_ _) | (with_reducible refine Kd.C_drew ?_))); (case side4 => exact (Kd.R_reads' HO519.out).2.1); rintro e w25 ⟨rfl, hb⟩; refine ⟨_, rfl, ?_⟩; have n0_ := Aside0.mk (Kd.R_below (by (with_reducible repeat (first | apply Kd.R_alloc | apply Kd.R_drewN | apply Kd.R_drew)); exact HO516.out) hb); have n1_ := Aside0.mk (Kd.R_below (by (with_reducible repeat (first | apply Kd.R_alloc | apply Kd.R_drewN | apply Kd.R_drew)); exact HO519.out) hb); have n2_ := Aside0.mk (blk_below (g := gb511) (o := .cells #[.int .i64 a2_0, .slice A2_1 l2_1.length c2_1, .slice A2_2 l2_2.length c2_2] 47 (0, 0)) (by (with_reducible repeat (first | refine blk_drewN ?_ _ | refine blk_drew ?_ | refine blk_alloc ?_ _)); exact BK511.out) hb); have n3_ := Aside0.mk (below_step (by repeat (first | (with_reducible first | exact HB.out | apply below_alloc | apply pw_below_drewN | apply below_drew1 | refine below_set ?_ GE511.out) | exact HB.out)) hb); clear HO516; clear HO519; clear BK511; clear HB; have HO516 := n0_; have HO519 := n1_; have BK511 := n2_; have HB := n3_; clear n0_ n1_ n2_ n3_; (try clear hb); (try clear hb2); (try clear hk); (try clear hi); have hcz26_0 : w25.cell? ⟨gb511, 0, none⟩ = some (.int .i64 a2_0) := (blk_cell BK511.out 0).trans rfl; have hcz26_1 : w25.cell? ⟨gb511, 1, none⟩ = some (.slice A2_1 l2_1.length c2_1) := (blk_cell BK511.out 1).trans rfl; have hcz26_2 : w25.cell? ⟨gb511, 2, none⟩ = some (.slice A2_2 l2_2.length c2_2) := (blk_cell BK511.out 2).trans rfl; have hfz26_0 := blk_frozen BK511.out 0; have hfz26_1 := blk_frozen BK511.out 1; have hfz26_2 := blk_frozen BK511.out 2) | ((with_reducible refine gate_callee (f := 33) rfl ?_); refine goesL_ (some 33) rfl rfl Try.func33 (by kernel_rfl) rfl #[.agg #[.int .i64 a2_0, .slice A2_1 l2_1.length c2_1, .slice A2_2 l2_2.length c2_2]] rfl (by (try simp only [List.map_toArray, List.map_cons, List.map_nil]); first | done | rfl | (simp only [List.length_drop, List.length_take]; rfl)) ?_; (with_reducible refine (laws_toSeal.calls k a2_0 _ _ l2_1 _ _ l2_2 t522 t523 t526 _ ?side1 ?side2 ?side3 ?side4 A15.out).mono ?_); (case side1 => repeat (first | exact (Kd.C_below HR2_1.out HB.out) | (with_reducible refine Kd.C_alloc ?_ _) | (with_reducible refine Kd.C_drewN ?_ _) | (with_reducible refine Kd.C_drew ?_))); (case side2 => exact HC2_1.out); (case side3 => repeat (first | exact (Kd.C_below HR2_2.out HB.out) | (with_reducible refine Kd.C_alloc ?_ _) | (with_reducible refine Kd.C_drewN ?_ _) | (with_reducible refine Kd.C_drew ?_))); (case side4 => exact HC2_2.out); rintro e w27 ⟨v524, v527, rfl, ho0, ho1, hb⟩; refine ⟨_, rfl, ?_⟩; have n0_ := Aside0.mk (Kd.R_mono (Kd.R_told (Kd.R_told (Kd.R_old (by (with_reducible repeat (first | apply Kd.R_alloc | apply Kd.R_drewN | apply Kd.R_drew)); exact HO516.out) hb) (Kd.R_base ho0)) (Kd.R_base ho1)) (fun _ h_ => h_.1)); have n1_ := Aside0.mk (Kd.R_mono (Kd.R_told (Kd.R_told (Kd.R_old (by (with_reducible repeat (first | apply Kd.R_alloc | apply Kd.R_drewN | apply Kd.R_drew)); exact HO519.out) hb) (Kd.R_base ho0)) (Kd.R_base ho1)) (fun _ h_ => h_.1)); have n2_ := Aside0.mk (Kd.R_lower (Kd.R_new' (Kd.R_new' ho0 (Kd.R_lt (by (with_reducible repeat (first | apply Kd.R_alloc | apply Kd.R_drewN | apply Kd.R_drew)); exact HO516.out))) (Kd.R_lt (by (with_reducible repeat (first | apply Kd.R_alloc | apply Kd.R_drewN | apply Kd.R_drew)); exact HO519.out))) (below_size (by repeat (first | (with_reducible first | exact HB.out | apply below_alloc | apply pw_below_drewN | apply below_drew1 | refine below_set ?_ GE511.out) | exact HB.out)))); have n3_ := Aside0.mk (Kd.R_lower (Kd.R_new' (Kd.R_new' ho1 (Kd.R_lt (by (with_reducible repeat (first | apply Kd.R_alloc | apply Kd.R_drewN | apply Kd.R_drew)); exact HO516.out))) (Kd.R_lt (by (with_reducible repeat (first | apply Kd.R_alloc | apply Kd.R_drewN | apply Kd.R_drew)); exact HO519.out))) (below_size (by repeat (first | (with_reducible first | exact HB.out | apply below_alloc | apply pw_below_drewN | apply below_drew1 | refine below_set ?_ GE511.out) | exact HB.out)))); have n4_ := Aside0.mk (blk_below (g := gb511) (o := .cells #[.int .i64 a2_0, .slice A2_1 l2_1.length c2_1, .slice A2_2 l2_2.length c2_2] 47 (0, 0)) (by (with_reducible repeat (first | refine blk_drewN ?_ _ | refine blk_drew ?_ | refine blk_alloc ?_ _)); exact BK511.out) hb); have n5_ := Aside0.mk (below_step (by repeat (first | (with_reducible first | exact HB.out | apply below_alloc | apply pw_below_drewN | apply below_drew1 | refine below_set ?_ GE511.out) | exact HB.out)) hb); clear HO516; clear HO519; clear BK511; clear HB; have HO516 := n0_; have HO519 := n1_; have HO525 := n2_; have HO528 := n3_; have BK511 := n4_; have HB := n5_; clear n0_ n1_ n2_ n3_ n4_ n5_; (try clear hb); (try clear hb2); (try clear hk); (try clear hi); (try clear ho0); (try clear ho1)) | ((with_reducible refine gate_dst (N := 10) rfl ?_); refine box_event ?hg (N := 10) ?hd (cs := #[.int .i64 0, .slice none 0 0, .slice none 0 0]) (t := 50) ?hr ?_; (case hd => rfl); (case hg => rfl); (case hr => first | (go_simp; done) | (go_simp; rfl)); intro gb529 hg w28 hbox hb; have n0_ := Aside0.mk (Kd.R_below (by (with_reducible repeat (first | apply Kd.R_alloc | apply Kd.R_drewN | apply Kd.R_drew)); exact HO516.out) hb); have n1_ := Aside0.mk (Kd.R_below (by (with_reducible repeat (first | apply Kd.R_alloc | apply Kd.R_drewN | apply Kd.R_drew)); exact HO519.out) hb); have n2_ := Aside0.mk (Kd.R_below (by (with_reducible repeat (first | apply Kd.R_alloc | apply Kd.R_drewN | apply Kd.R_drew)); exact HO525.out) hb); have n3_ := Aside0.mk (Kd.R_below (by (with_reducible repeat (first | apply Kd.R_alloc | apply Kd.R_drewN | apply Kd.R_drew)); exact HO528.out) hb); have n4_ := Aside0.mk (blk_below (g := gb511) (o := .cells #[.int .i64 a2_0, .slice A2_1 l2_1.length c2_1, .slice A2_2 l2_2.length c2_2] 47 (0, 0)) (by (with_reducible repeat (first | refine blk_drewN ?_ _ | refine blk_drew ?_ | refine blk_alloc ?_ _)); exact BK511.out) hb); have n5_ := Aside0.mk (below_step (by repeat (first | (with_reducible first | exact HB.out | apply below_alloc | apply pw_below_drewN | apply below_drew1 | refine below_set ?_ GE511.out) | exact HB.out)) hb); have n6_ := Aside0.mk (hbox); have n7_ := Aside0.mk ((by rw [hg]; exact (below_size (by repeat (first | (with_reducible first | exact HB.out | apply below_alloc | apply pw_below_drewN | apply below_drew1 | refine below_set ?_ GE511.out) | exact HB.out))) : w.heap.size ≤ gb529)); have n8_ := Aside0.mk ((by rw [hg]; exact (below_size (by repeat (first | (with_reducible first | exact HB.out | apply below_alloc | apply pw_below_drewN | apply below_drew1 | refine below_set ?_ GE511.out) | exact HB.out))) : w.heap.size ≤ gb529)); have n9_ := Aside0.mk ((by rw [hg]; exact Nat.ne_of_lt (blk_lt (g := gb511) (o := .cells #[.int .i64 a2_0, .slice A2_1 l2_1.length c2_1, .slice A2_2 l2_2.length c2_2] 47 (0, 0)) (by (with_reducible repeat (first | refine blk_drewN ?_ _ | refine blk_drew ?_ | refine blk_alloc ?_ _)); exact BK511.out)) : gb511 ≠ gb529)); have n10_ := Aside0.mk ((by rw [hg]; exact Nat.ne_of_gt (blk_lt (g := gb511) (o := .cells #[.int .i64 a2_0, .slice A2_1 l2_1.length c2_1, .slice A2_2 l2_2.length c2_2] 47 (0, 0)) (by (with_reducible repeat (first | refine blk_drewN ?_ _ | refine blk_drew ?_ | refine blk_alloc ?_ _)); exact BK511.out)) : gb529 ≠ gb511)); clear HO516; clear HO519; clear HO525; clear HO528; clear BK511; clear HB; have HO516 := n0_; have HO519 := n1_; have HO525 := n2_; have HO528 := n3_; have BK511 := n4_; have HB := n5_; have BK529 := n6_; have GW529 := n7_; have GE529 := n8_; have NB511_529 := n9_; have NB529_511 := n10_; clear n0_ n1_ n2_ n3_ n4_ n5_ n6_ n7_ n8_ n9_ n10_; clear hb hbox hg; have hnb29 := NB529_511.out; have hnc29 := NB511_529.out; have hcz30_0 : w28.cell? ⟨gb529, 0, none⟩ = some (.int .i64 0) := (blk_cell BK529.out 0).trans rfl; have hcz30_1 : w28.cell? ⟨gb529, 1, none⟩ = some (.slice none 0 0) := (blk_cell BK529.out 1).trans rfl; have hcz30_2 : w28.cell? ⟨gb529, 2, none⟩ = some (.slice none 0 0) := (blk_cell BK529.out 2).trans rfl; have hfz30_0 := blk_frozen BK529.out 0; have hfz30_1 := blk_frozen BK529.out 1; have hfz30_2 := blk_frozen BK529.out 2; obtain ⟨Ao31, co31, eo31⟩ := Kd.R_slice HO525.out; subst eo31; obtain ⟨Ao32, co32, eo32⟩ := Kd.R_slice HO528.out; subst eo32) | ((with_reducible refine gate_callee (f := 34) rfl ?_); refine goesL_ (some 38) rfl rfl Try.func34 (by kernel_rfl) rfl #[.string a0, .string a1, .agg #[.int .i64 t522, .slice Ao31 t523.length co31, .slice Ao32 t526.length co32]] rfl (by (try simp only [List.map_toArray, List.map_cons, List.map_nil]); first | done | rfl | (simp only [List.length_drop, List.length_take]; rfl)) ?_; (with_reducible refine (impl_CheckSeal.calls k a0 a1 t522 _ _ t523 _ _ t526 t530 t531 _ ?side1 ?side2 ?side3 ?side4 A16.out).mono ?_); (case side1 => refine (Kd.R_reads' (e := 9) (base := w.heap.size) (ok := fun k_ => ((some k_ ≠ (.slice Ao32 t526.length co32 : Value).ownBlock ∧ some k_ ≠ (.slice Ao23 t514.length co23 : Value).ownBlock) ∧ some k_ ≠ (.slice Ao24 t517.length co24 : Value).ownBlock)) (n := t523.length) (c := co31) ?_).2.2; exact (by (with_reducible repeat (first | apply Kd.R_alloc | apply Kd.R_drewN | apply Kd.R_drew)); exact (Kd.R_mono (Kd.R_far (p := ⟨gb529, 2, none⟩) (Kd.R_far (p := ⟨gb529, 1, none⟩) (Kd.R_far (p := ⟨gb529, 0, none⟩) (Kd.R_types HO525.out BK529.out (by decide)) (fun _ hk => hk.2) (.int .i64 t522)) (fun _ hk => hk.2) (.slice Ao31 t523.length co31)) (fun _ hk => hk.2) (.slice Ao32 t526.length co32)) (fun _ h_ => h_.1)))); (case side2 => exact (Kd.R_reads' HO525.out).2.1); (case side3 => refine (Kd.R_reads' (e := 9) (base := w.heap.size) (ok := fun k_ => ((some k_ ≠ (.slice Ao31 t523.length co31 : Value).ownBlock ∧ some k_ ≠ (.slice Ao23 t514.length co23 : Value).ownBlock) ∧ some k_ ≠ (.slice Ao24 t517.length co24 : Value).ownBlock)) (n := t526.length) (c := co32) ?_).2.2; exact (by (with_reducible repeat (first | apply Kd.R_alloc | apply Kd.R_drewN | apply Kd.R_drew)); exact (Kd.R_mono (Kd.R_far (p := ⟨gb529, 2, none⟩) (Kd.R_far (p := ⟨gb529, 1, none⟩) (Kd.R_far (p := ⟨gb529, 0, none⟩) (Kd.R_types HO528.out BK529.out (by decide)) (fun _ hk => hk.2) (.int .i64 t522)) (fun _ hk => hk.2) (.slice Ao31 t523.length co31)) (fun _ hk => hk.2) (.slice Ao32 t526.length co32)) (fun _ h_ => h_.1)))); (case side4 => exact (Kd.R_reads' HO528.out).2.1); rintro e w33 ⟨rfl, hb⟩; refine ⟨_, rfl, ?_⟩; have n0_ := Aside0.mk (Kd.R_below (by (with_reducible repeat (first | apply Kd.R_alloc | apply Kd.R_drewN | apply Kd.R_drew)); exact (Kd.R_mono (Kd.R_far (p := ⟨gb529, 2, none⟩) (Kd.R_far (p := ⟨gb529, 1, none⟩) (Kd.R_far (p := ⟨gb529, 0, none⟩) (Kd.R_types HO516.out BK529.out (by decide)) (fun _ hk => hk.2) (.int .i64 t522)) (fun _ hk => hk.2) (.slice Ao31 t523.length co31)) (fun _ hk => hk.2) (.slice Ao32 t526.length co32)) (fun _ h_ => h_.1))) hb); have n1_ := Aside0.mk (Kd.R_below (by (with_reducible repeat (first | apply Kd.R_alloc | apply Kd.R_drewN | apply Kd.R_drew)); exact (Kd.R_mono (Kd.R_far (p := ⟨gb529, 2, none⟩) (Kd.R_far (p := ⟨gb529, 1, none⟩) (Kd.R_far (p := ⟨gb529, 0, none⟩) (Kd.R_types HO519.out BK529.out (by decide)) (fun _ hk => hk.2) (.int .i64 t522)) (fun _ hk => hk.2) (.slice Ao31 t523.length co31)) (fun _ hk => hk.2) (.slice Ao32 t526.length co32)) (fun _ h_ => h_.1))) hb); have n2_ := Aside0.mk (Kd.R_below (by (with_reducible repeat (first | apply Kd.R_alloc | apply Kd.R_drewN | apply Kd.R_drew)); exact (Kd.R_mono (Kd.R_far (p := ⟨gb529, 2, none⟩) (Kd.R_far (p := ⟨gb529, 1, none⟩) (Kd.R_far (p := ⟨gb529, 0, none⟩) (Kd.R_types HO525.out BK529.out (by decide)) (fun _ hk => hk.2) (.int .i64 t522)) (fun _ hk => hk.2) (.slice Ao31 t523.length co31)) (fun _ hk => hk.2) (.slice Ao32 t526.length co32)) (fun _ h_ => h_.1))) hb); have n3_ := Aside0.mk (Kd.R_below (by (with_reducible repeat (first | apply Kd.R_alloc | apply Kd.R_drewN | apply Kd.R_drew)); exact (Kd.R_mono (Kd.R_far (p := ⟨gb529, 2, none⟩) (Kd.R_far (p := ⟨gb529, 1, none⟩) (Kd.R_far (p := ⟨gb529, 0, none⟩) (Kd.R_types HO528.out BK529.out (by decide)) (fun _ hk => hk.2) (.int .i64 t522)) (fun _ hk => hk.2) (.slice Ao31 t523.length co31)) (fun _ hk => hk.2) (.slice Ao32 t526.length co32)) (fun _ h_ => h_.1))) hb); have n4_ := Aside0.mk (blk_below (g := gb511) (o := .cells #[.int .i64 a2_0, .slice A2_1 l2_1.length c2_1, .slice A2_2 l2_2.length c2_2] 47 (0, 0)) (by (with_reducible repeat (first | refine blk_drewN ?_ _ | refine blk_drew ?_ | refine blk_alloc ?_ _)); refine blk_far ?_ NB511_529.out _; (with_reducible repeat (first | refine blk_drewN ?_ _ | refine blk_drew ?_ | refine blk_alloc ?_ _)); refine blk_far ?_ NB511_529.out _; (with_reducible repeat (first | refine blk_drewN ?_ _ | refine blk_drew ?_ | refine blk_alloc ?_ _)); refine blk_far ?_ NB511_529.out _; (with_reducible repeat (first | refine blk_drewN ?_ _ | refine blk_drew ?_ | refine blk_alloc ?_ _)); exact BK511.out) hb); have n5_ := Aside0.mk (blk_below (g := gb529) (o := .cells #[.int .i64 t522, .slice Ao31 t523.length co31, .slice Ao32 t526.length co32] 50 (0, 0)) (by (with_reducible repeat (first | refine blk_drewN ?_ _ | refine blk_drew ?_ | refine blk_alloc ?_ _)); refine blk_put (cs := #[.int .i64 t522, .slice Ao31 t523.length co31, .slice none 0 0]) ?_ 2 _ rfl; (with_reducible repeat (first | refine blk_drewN ?_ _ | refine blk_drew ?_ | refine blk_alloc ?_ _)); refine blk_put (cs := #[.int .i64 t522, .slice none 0 0, .slice none 0 0]) ?_ 1 _ rfl; (with_reducible repeat (first | refine blk_drewN ?_ _ | refine blk_drew ?_ | refine blk_alloc ?_ _)); refine blk_put (cs := #[.int .i64 0, .slice none 0 0, .slice none 0 0]) ?_ 0 _ rfl; (with_reducible repeat (first | refine blk_drewN ?_ _ | refine blk_drew ?_ | refine blk_alloc ?_ _)); exact BK529.out) hb); have n6_ := Aside0.mk (below_step (by repeat (first | (with_reducible first | exact HB.out | apply below_alloc | apply pw_below_drewN | apply below_drew1 | refine below_set ?_ GE511.out | refine below_set ?_ GE529.out) | exact HB.out)) hb); clear HO516; clear HO519; clear HO525; clear HO528; clear BK511; clear BK529; clear HB; have HO516 := n0_; have HO519 := n1_; have HO525 := n2_; have HO528 := n3_; have BK511 := n4_; have BK529 := n5_; have HB := n6_; clear n0_ n1_ n2_ n3_ n4_ n5_ n6_; (try clear hb); (try clear hb2); (try clear hk); (try clear hi)))
    (try simp only [Act.put, List.setIfInBounds_toArray, List.set_cons_zero, List.set_cons_succ])
    go_cut [48] (fun v48 wc => ∃ (kq : Nat) (x48_16 : Bool), v48 = .bool x48_16 ∧ Aside0 (laws_FnExactCheckSeal.j0 kq x48_16 a2_0 l2_1 l2_2 t522 t523 t526 = some r) ∧ Aside0 (kq ≤ k) ∧ Aside0 (Kd.R Kd.string 9 wc w.heap.size (fun k_ => some k_ ≠ ((.slice Ao32 t526.length co32) : Value).ownBlock) (.slice Ao31 t523.length co31) t523) ∧ Aside0 (Kd.R Kd.string 9 wc w.heap.size (fun k_ => some k_ ≠ ((.slice Ao31 t523.length co31) : Value).ownBlock) (.slice Ao32 t526.length co32) t526) ∧ Aside0 (wc.heap[gb511]? = some (.cells #[.int .i64 a2_0, (.slice A2_1 l2_1.length c2_1), (.slice A2_2 l2_2.length c2_2)] 47 (0, 0))) ∧ Aside0 (wc.heap[gb529]? = some (.cells #[.int .i64 t522, (.slice Ao31 t523.length co31), (.slice Ao32 t526.length co32)] 50 (0, 0))) ∧ Aside0 (Below w.heap.size w wc))
    case first =>
     have H := HC17.out
     clear HC17
     by_cases c34 : (t530 != t520) = true
     ·rw [if_pos c34] at H
      have c34b0 : (t530 != t520) = true := c34
      (try (have c34b1 : decide (t530 = t520) = false := by simpa using c34))
      (try (have c34b2 : (t530 == t520) = false := by simpa using c34))
      (try (have c34b3 : ¬ (t530 = t520) := by simpa using c34))
      clear c34
      (first | rw [c34b0] | (simp only [i64_w, i32_w]; rw [c34b0]) | skip)
      have H' := Aside0.mk H
      clear H
      go_wp2
      go_meet
      case rel => exact ⟨_, (true), (by first | rfl | (simp; done) | (simp [*]; done) | (simp [bne]; done)), H', ⟨by first | omega | exact Nat.le_refl _⟩, ⟨by (with_reducible repeat (first | apply Kd.R_alloc | apply Kd.R_drewN | apply Kd.R_drew)); exact Kd.R_mono HO525.out (fun _ hk => hk.1.1)⟩, ⟨by (with_reducible repeat (first | apply Kd.R_alloc | apply Kd.R_drewN | apply Kd.R_drew)); exact Kd.R_mono HO528.out (fun _ hk => hk.1.1)⟩, ⟨by (with_reducible repeat (first | refine blk_drewN ?_ _ | refine blk_drew ?_ | refine blk_alloc ?_ _)); exact BK511.out⟩, ⟨by (with_reducible repeat (first | refine blk_drewN ?_ _ | refine blk_drew ?_ | refine blk_alloc ?_ _)); exact BK529.out⟩, ⟨by repeat (first | (with_reducible first | exact HB.out | apply below_alloc | apply pw_below_drewN | apply below_drew1 | refine below_set ?_ GE511.out | refine below_set ?_ GE529.out) | exact HB.out)⟩⟩
     ·rw [if_neg c34] at H
      have c34b0 : (t530 != t520) = false := by simpa using c34
      (try (have c34b1 : decide (t530 = t520) = true := by simpa using c34))
      (try (have c34b2 : (t530 == t520) = true := by simpa using c34))
      clear c34
      (first | rw [c34b0] | (simp only [i64_w, i32_w]; rw [c34b0]) | skip)
      have H' := Aside0.mk H
      clear H
      go_wp2
      go_meet
      case rel => exact ⟨_, ((t531 != t521)), (by first | rfl | (simp; done) | (simp [*]; done) | (simp [bne]; done)), H', ⟨by first | omega | exact Nat.le_refl _⟩, ⟨by (with_reducible repeat (first | apply Kd.R_alloc | apply Kd.R_drewN | apply Kd.R_drew)); exact Kd.R_mono HO525.out (fun _ hk => hk.1.1)⟩, ⟨by (with_reducible repeat (first | apply Kd.R_alloc | apply Kd.R_drewN | apply Kd.R_drew)); exact Kd.R_mono HO528.out (fun _ hk => hk.1.1)⟩, ⟨by (with_reducible repeat (first | refine blk_drewN ?_ _ | refine blk_drew ?_ | refine blk_alloc ?_ _)); exact BK511.out⟩, ⟨by (with_reducible repeat (first | refine blk_drewN ?_ _ | refine blk_drew ?_ | refine blk_alloc ?_ _)); exact BK529.out⟩, ⟨by repeat (first | (with_reducible first | exact HB.out | apply below_alloc | apply pw_below_drewN | apply below_drew1 | refine below_set ?_ GE511.out | refine below_set ?_ GE529.out) | exact HB.out)⟩⟩
    case rest =>
     clear HC17
     try clear c2
     try clear p2
     try clear c3
     try clear c4
     try clear c4b0
     try clear c4b1
     try clear c5
     try clear c6
     try clear c6b0
     try clear c6b1
     try clear c9
     try clear c9b0
     try clear c29
     try clear c31
     try clear c32
     try clear c33
     try clear c34
     try clear c34b0
     try clear c34b1
     try clear c34b2
     try clear hcz11_0
     try clear hcz11_1
     try clear hcz11_2
     try clear hcz19_0
     try clear hcz19_1
     try clear hcz19_2
     try clear hcz21_0
     try clear hcz21_1
     try clear hcz21_2
     try clear hcz26_0
     try clear hcz26_1
     try clear hcz26_2
     try clear hcz30_0
     try clear hcz30_1
     try clear hcz30_2
     try clear hfz11_0
     try clear hfz11_1
     try clear hfz11_2
     try clear hfz19_0
     try clear hfz19_1
     try clear hfz19_2
     try clear hfz21_0
     try clear hfz21_1
     try clear hfz21_2
     try clear hfz26_0
     try clear hfz26_1
     try clear hfz26_2
     try clear hfz30_0
     try clear hfz30_1
     try clear hfz30_2
     obtain ⟨kq, x48_16, rfl, HA, HJ16, HO_530001, HO_530002, BK511, BK529, HB⟩ := hcut
     cases kq with
     | zero => exact absurd HA.out (by simp [laws_FnExactCheckSeal.j0])
     | succ kj16 =>
      have H := HA.out
      clear HA
      simp only [laws_FnExactCheckSeal.j0] at H
      by_cases c35 : x48_16 = true
      ·subst c35
       have H1 : (some false) = some r := by rw [if_pos rfl] at H; exact H
       clear H
       have H := H1
       clear H1
       obtain rfl := Option.some.inj H
       go_wp2
       go_ret
       exact ⟨by first | rfl | (simp [errW_none, errW_some] <;> rfl) | (simp [*, errW_none, errW_some] <;> rfl), by repeat (first | (with_reducible first | exact HB.out | apply below_alloc | apply pw_below_drewN | apply below_drew1 | refine below_set ?_ GE511.out | refine below_set ?_ GE529.out) | exact HB.out)⟩
      ·replace c35 := Bool.eq_false_iff.mpr c35
       subst c35
       have H1 : ((laws_toSeal.f kj16 a2_0 l2_1 l2_2).bind fun bt532 => ((laws_eqSeal.f kj16 t522 t523 t526 bt532.1 bt532.2.1 bt532.2.2).bind fun t539 => (if t539 = true then (some true) else (some false)))) = some r := by rw [if_neg (show ¬ (false = true) by decide)] at H; exact H
       clear H
       have H := H1
       clear H1
       replace H := Option.bind_eq_some_iff.mp H
       obtain ⟨⟨t532, t533, t536⟩, A360, H⟩ := H
       replace H : ((laws_eqSeal.f kj16 t522 t523 t526 t532 t533 t536).bind fun t539 => (if t539 = true then (some true) else (some false))) = some r := H
       have A36 := Aside0.mk A360
       clear A360
       replace H := Option.bind_eq_some_iff.mp H
       obtain ⟨t539, A370, H⟩ := H
       replace H : (if t539 = true then (some true) else (some false)) = some r := H
       have A37 := Aside0.mk A370
       clear A370
       by_cases c38 : t539 = true
       ·subst c38
        have H1 : (some true) = some r := by rw [if_pos rfl] at H; exact H
        clear H
        have H := H1
        clear H1
        obtain rfl := Option.some.inj H
        try go_wp2
        have n0_ := Aside0.mk (Kd.R_drew HO_530001.out)
        have n1_ := Aside0.mk (Kd.R_drew HO_530002.out)
        have n2_ := Aside0.mk (blk_drew BK511.out)
        have n3_ := Aside0.mk (blk_drew BK529.out)
        have n4_ := Aside0.mk (below_drew1 HB.out)
        clear HO_530001
        clear HO_530002
        clear BK511
        clear BK529
        clear HB
        have HO_530001 := n0_
        have HO_530002 := n1_
        have BK511 := n2_
        have BK529 := n3_
        have HB := n4_
        clear n0_ n1_ n2_ n3_ n4_
        refine start_ (n := 5) (S := fun w' => w'.cell? ⟨gb529, 0, none⟩ = some (.int .i64 t522) ∧ w'.cell? ⟨gb529, 1, none⟩ = some (.slice Ao31 t523.length co31) ∧ w'.cell? ⟨gb529, 2, none⟩ = some (.slice Ao32 t526.length co32) ∧ w'.cell? ⟨gb511, 0, none⟩ = some (.int .i64 a2_0) ∧ w'.cell? ⟨gb511, 1, none⟩ = some (.slice A2_1 l2_1.length c2_1) ∧ w'.cell? ⟨gb511, 2, none⟩ = some (.slice A2_2 l2_2.length c2_2)) (ds := []) #[false, false, false, false, false] (by kernel_rfl) rfl rfl ⟨(blk_cell BK529.out 0).trans rfl, (blk_cell BK529.out 1).trans rfl, (blk_cell BK529.out 2).trans rfl, (blk_cell BK511.out 0).trans rfl, (blk_cell BK511.out 1).trans rfl, (blk_cell BK511.out 2).trans rfl⟩ (fun hHeld => ?_)
        generalize wc.drew = w39 at HO_530001 HO_530002 BK511 BK529 HB hHeld ⊢
        refine take_ (i := 0) (N := some 49) (v := ?_) (a' := ?_) #[true, false, false, false, false] rfl rfl (by kernel_rfl) (fun _ _ _ h => h) (Or.inl ⟨by rfl, ?_⟩) hHeld ?_ ?_
        rotate_left
        ·rintro w' ⟨s0, s1, s2, s3, s4, s5⟩
         go_simp
         with_reducible rfl
        rotate_left
        ·simp only [Act.put, List.setIfInBounds_toArray, List.set_cons_zero, List.set_cons_succ, i64_w, i32_w]
         rfl
        refine take_ (i := 1) (N := some 50) (v := ?_) (a' := ?_) #[true, true, false, false, false] rfl rfl (by kernel_rfl) (fun _ _ _ h => h) (Or.inl ⟨by rfl, ?_⟩) hHeld ?_ ?_
        rotate_left
        ·rintro w' ⟨s0, s1, s2, s3, s4, s5⟩
         go_simp
         with_reducible rfl
        rotate_left
        ·simp only [Act.put, List.setIfInBounds_toArray, List.set_cons_zero, List.set_cons_succ, i64_w, i32_w]
         rfl
        refine one_ (i := 2) (N := some 51) #[true, true, true, false, false] rfl rfl (by kernel_rfl) (by decide) (fun K hK => ?_)
        refine goes_ Try.func33 (by kernel_rfl) rfl #[.agg #[.int .i64 a2_0, .slice A2_1 l2_1.length c2_1, .slice A2_2 l2_2.length c2_2]] (by rfl) rfl rfl (by (try simp only [List.map_toArray, List.map_cons, List.map_nil]); first | done | rfl | (simp only [List.length_drop, List.length_take]; rfl)) ?_
        with_reducible refine (laws_toSeal.calls kj16 a2_0 _ _ l2_1 _ _ l2_2 t532 t533 t536 _ ?side1 ?side2 ?side3 ?side4 A36.out).mono ?_
        (case side1 => repeat (first | exact (Kd.C_below HR2_1.out HB.out) | (with_reducible refine Kd.C_alloc ?_ _) | (with_reducible refine Kd.C_drewN ?_ _) | (with_reducible refine Kd.C_drew ?_)))
        (case side2 => exact HC2_1.out)
        (case side3 => repeat (first | exact (Kd.C_below HR2_2.out HB.out) | (with_reducible refine Kd.C_alloc ?_ _) | (with_reducible refine Kd.C_drewN ?_ _) | (with_reducible refine Kd.C_drew ?_)))
        (case side4 => exact HC2_2.out)
        rintro e w40 ⟨v534, v537, rfl, ho0, ho1, hb⟩
        refine ⟨_, rfl, ?_⟩
        have n0_ := Aside0.mk (Kd.R_mono (Kd.R_told (Kd.R_told (Kd.R_old (by (with_reducible repeat (first | apply Kd.R_alloc | apply Kd.R_drewN | apply Kd.R_drew)); exact HO_530001.out) hb) (Kd.R_base ho0)) (Kd.R_base ho1)) (fun _ h_ => h_.1))
        have n1_ := Aside0.mk (Kd.R_mono (Kd.R_told (Kd.R_told (Kd.R_old (by (with_reducible repeat (first | apply Kd.R_alloc | apply Kd.R_drewN | apply Kd.R_drew)); exact HO_530002.out) hb) (Kd.R_base ho0)) (Kd.R_base ho1)) (fun _ h_ => h_.1))
        have n2_ := Aside0.mk (Kd.R_lower (Kd.R_new' (Kd.R_new' ho0 (Kd.R_lt (by (with_reducible repeat (first | apply Kd.R_alloc | apply Kd.R_drewN | apply Kd.R_drew)); exact HO_530001.out))) (Kd.R_lt (by (with_reducible repeat (first | apply Kd.R_alloc | apply Kd.R_drewN | apply Kd.R_drew)); exact HO_530002.out))) (below_size (by repeat (first | (with_reducible first | exact HB.out | apply below_alloc | apply pw_below_drewN | apply below_drew1 | refine below_set ?_ GE511.out | refine below_set ?_ GE529.out) | exact HB.out))))
        have n3_ := Aside0.mk (Kd.R_lower (Kd.R_new' (Kd.R_new' ho1 (Kd.R_lt (by (with_reducible repeat (first | apply Kd.R_alloc | apply Kd.R_drewN | apply Kd.R_drew)); exact HO_530001.out))) (Kd.R_lt (by (with_reducible repeat (first | apply Kd.R_alloc | apply Kd.R_drewN | apply Kd.R_drew)); exact HO_530002.out))) (below_size (by repeat (first | (with_reducible first | exact HB.out | apply below_alloc | apply pw_below_drewN | apply below_drew1 | refine below_set ?_ GE511.out | refine below_set ?_ GE529.out) | exact HB.out))))
        have n4_ := Aside0.mk (blk_below (g := gb511) (o := .cells #[.int .i64 a2_0, .slice A2_1 l2_1.length c2_1, .slice A2_2 l2_2.length c2_2] 47 (0, 0)) (by (with_reducible repeat (first | refine blk_drewN ?_ _ | refine blk_drew ?_ | refine blk_alloc ?_ _)); exact BK511.out) hb)
        have n5_ := Aside0.mk (blk_below (g := gb529) (o := .cells #[.int .i64 t522, .slice Ao31 t523.length co31, .slice Ao32 t526.length co32] 50 (0, 0)) (by (with_reducible repeat (first | refine blk_drewN ?_ _ | refine blk_drew ?_ | refine blk_alloc ?_ _)); exact BK529.out) hb)
        have n6_ := Aside0.mk (below_step (by repeat (first | (with_reducible first | exact HB.out | apply below_alloc | apply pw_below_drewN | apply below_drew1 | refine below_set ?_ GE511.out | refine below_set ?_ GE529.out) | exact HB.out)) hb)
        clear HO_530001
        clear HO_530002
        clear BK511
        clear BK529
        clear HB
        have HO_530001 := n0_
        have HO_530002 := n1_
        have HO535 := n2_
        have HO538 := n3_
        have BK511 := n4_
        have BK529 := n5_
        have HB := n6_
        clear n0_ n1_ n2_ n3_ n4_ n5_ n6_
        (try clear hb)
        (try clear hb2)
        (try clear hk)
        (try clear hi)
        (try clear ho0)
        (try clear ho1)
        obtain ⟨Ao41, co41, eo41⟩ := Kd.R_slice HO535.out
        (first | subst eo41 | (injection eo41 with f1_ f2_ f3_; have f4_ := f1_.symm; have f5_ := f3_.symm; clear f1_ f2_ f3_; subst f4_; subst f5_))
        obtain ⟨Ao42, co42, eo42⟩ := Kd.R_slice HO538.out
        (first | subst eo42 | (injection eo42 with f1_ f2_ f3_; have f4_ := f1_.symm; have f5_ := f3_.symm; clear f1_ f2_ f3_; subst f4_; subst f5_))
        refine hK.out _ _ ⟨(blk_cell BK529.out 0).trans rfl, (blk_cell BK529.out 1).trans rfl, (blk_cell BK529.out 2).trans rfl, (blk_cell BK511.out 0).trans rfl, (blk_cell BK511.out 1).trans rfl, (blk_cell BK511.out 2).trans rfl⟩ (fun hHeld => ?_)
        clear hK K
        refine norm_ (a' := ?_) ?_ ?_
        rotate_left
        ·show Act.put _ (some 51) _ = _
         simp only [Act.put, List.setIfInBounds_toArray, List.set_cons_zero, List.set_cons_succ, i64_w, i32_w]
         rfl
        refine one_ (i := 3) (N := some 52) #[true, true, true, true, false] rfl rfl (by kernel_rfl) (by decide) (fun K hK => ?_)
        refine goes_ Try.func35 (by kernel_rfl) rfl #[.agg #[.int .i64 t522, .slice Ao31 t523.length co31, .slice Ao32 t526.length co32], .agg #[.int .i64 t532, .slice Ao41 t533.length co41, .slice Ao42 t536.length co42]] (by rfl) rfl rfl (by (try simp only [List.map_toArray, List.map_cons, List.map_nil]); first | done | rfl | (simp only [List.length_drop, List.length_take]; rfl)) ?_
        with_reducible refine (laws_eqSeal.calls kj16 t522 _ _ t523 _ _ t526 t532 _ _ t533 _ _ t536 true _ ?side1 ?side2 ?side3 ?side4 ?side5 ?side6 ?side7 ?side8 A37.out).mono ?_
        (case side1 => repeat (first | exact (Kd.R_reads' HO_530001.out).2.2 | (with_reducible refine Kd.C_alloc ?_ _) | (with_reducible refine Kd.C_drewN ?_ _) | (with_reducible refine Kd.C_drew ?_)))
        (case side2 => exact (Kd.R_reads' HO_530001.out).2.1)
        (case side3 => repeat (first | exact (Kd.R_reads' HO_530002.out).2.2 | (with_reducible refine Kd.C_alloc ?_ _) | (with_reducible refine Kd.C_drewN ?_ _) | (with_reducible refine Kd.C_drew ?_)))
        (case side4 => exact (Kd.R_reads' HO_530002.out).2.1)
        (case side5 => repeat (first | exact (Kd.R_reads' HO535.out).2.2 | (with_reducible refine Kd.C_alloc ?_ _) | (with_reducible refine Kd.C_drewN ?_ _) | (with_reducible refine Kd.C_drew ?_)))
        (case side6 => exact (Kd.R_reads' HO535.out).2.1)
        (case side7 => repeat (first | exact (Kd.R_reads' HO538.out).2.2 | (with_reducible refine Kd.C_alloc ?_ _) | (with_reducible refine Kd.C_drewN ?_ _) | (with_reducible refine Kd.C_drew ?_)))
        (case side8 => exact (Kd.R_reads' HO538.out).2.1)
        rintro e w43 ⟨rfl, hb⟩
        refine ⟨_, rfl, ?_⟩
        have n0_ := Aside0.mk (Kd.R_below (by (with_reducible repeat (first | apply Kd.R_alloc | apply Kd.R_drewN | apply Kd.R_drew)); exact HO_530001.out) hb)
        have n1_ := Aside0.mk (Kd.R_below (by (with_reducible repeat (first | apply Kd.R_alloc | apply Kd.R_drewN | apply Kd.R_drew)); exact HO_530002.out) hb)
        have n2_ := Aside0.mk (Kd.R_below (by (with_reducible repeat (first | apply Kd.R_alloc | apply Kd.R_drewN | apply Kd.R_drew)); exact HO535.out) hb)
        have n3_ := Aside0.mk (Kd.R_below (by (with_reducible repeat (first | apply Kd.R_alloc | apply Kd.R_drewN | apply Kd.R_drew)); exact HO538.out) hb)
        have n4_ := Aside0.mk (blk_below (g := gb511) (o := .cells #[.int .i64 a2_0, .slice A2_1 l2_1.length c2_1, .slice A2_2 l2_2.length c2_2] 47 (0, 0)) (by (with_reducible repeat (first | refine blk_drewN ?_ _ | refine blk_drew ?_ | refine blk_alloc ?_ _)); exact BK511.out) hb)
        have n5_ := Aside0.mk (blk_below (g := gb529) (o := .cells #[.int .i64 t522, .slice Ao31 t523.length co31, .slice Ao32 t526.length co32] 50 (0, 0)) (by (with_reducible repeat (first | refine blk_drewN ?_ _ | refine blk_drew ?_ | refine blk_alloc ?_ _)); exact BK529.out) hb)
        have n6_ := Aside0.mk (below_step (by repeat (first | (with_reducible first | exact HB.out | apply below_alloc | apply pw_below_drewN | apply below_drew1 | refine below_set ?_ GE511.out | refine below_set ?_ GE529.out) | exact HB.out)) hb)
        clear HO_530001
        clear HO_530002
        clear HO535
        clear HO538
        clear BK511
        clear BK529
        clear HB
        have HO_530001 := n0_
        have HO_530002 := n1_
        have HO535 := n2_
        have HO538 := n3_
        have BK511 := n4_
        have BK529 := n5_
        have HB := n6_
        clear n0_ n1_ n2_ n3_ n4_ n5_ n6_
        (try clear hb)
        (try clear hb2)
        (try clear hk)
        (try clear hi)
        refine hK.out _ _ ⟨(blk_cell BK529.out 0).trans rfl, (blk_cell BK529.out 1).trans rfl, (blk_cell BK529.out 2).trans rfl, (blk_cell BK511.out 0).trans rfl, (blk_cell BK511.out 1).trans rfl, (blk_cell BK511.out 2).trans rfl⟩ (fun hHeld => ?_)
        clear hK K
        refine norm_ (a' := ?_) ?_ ?_
        rotate_left
        ·show Act.put _ (some 52) _ = _
         simp only [Act.put, List.setIfInBounds_toArray, List.set_cons_zero, List.set_cons_succ, i64_w, i32_w]
         rfl
        refine pure_ (i := 4) (N := some 53) (v := ?_) (a' := ?_) #[true, true, true, true, true] rfl rfl (by kernel_rfl) (fun _ _ _ h => h) (Or.inl ⟨by rfl, ?_⟩) ?_ ?_
        rotate_left
        ·intro w'
         go_simp
         with_reducible rfl
        rotate_left
        ·simp only [Act.put, List.setIfInBounds_toArray, List.set_cons_zero, List.set_cons_succ, i64_w, i32_w]
         rfl
        refine done_ (by kernel_rfl) ?_
        try go_wp2
        go_ret
        exact ⟨by first | rfl | (simp [errW_none, errW_some] <;> rfl) | (simp [*, errW_none, errW_some] <;> rfl), by repeat (first | (with_reducible first | exact HB.out | apply below_alloc | apply pw_below_drewN | apply below_drew1 | refine below_set ?_ GE511.out | refine below_set ?_ GE529.out) | exact HB.out)⟩
       ·replace c38 := Bool.eq_false_iff.mpr c38
        subst c38
        have H1 : (some false) = some r := by rw [if_neg (show ¬ (false = true) by decide)] at H; exact H
        clear H
        have H := H1
        clear H1
        obtain rfl := Option.some.inj H
        try go_wp2
        have n0_ := Aside0.mk (Kd.R_drew HO_530001.out)
        have n1_ := Aside0.mk (Kd.R_drew HO_530002.out)
        have n2_ := Aside0.mk (blk_drew BK511.out)
        have n3_ := Aside0.mk (blk_drew BK529.out)
        have n4_ := Aside0.mk (below_drew1 HB.out)
        clear HO_530001
        clear HO_530002
        clear BK511
        clear BK529
        clear HB
        have HO_530001 := n0_
        have HO_530002 := n1_
        have BK511 := n2_
        have BK529 := n3_
        have HB := n4_
        clear n0_ n1_ n2_ n3_ n4_
        refine start_ (n := 5) (S := fun w' => w'.cell? ⟨gb529, 0, none⟩ = some (.int .i64 t522) ∧ w'.cell? ⟨gb529, 1, none⟩ = some (.slice Ao31 t523.length co31) ∧ w'.cell? ⟨gb529, 2, none⟩ = some (.slice Ao32 t526.length co32) ∧ w'.cell? ⟨gb511, 0, none⟩ = some (.int .i64 a2_0) ∧ w'.cell? ⟨gb511, 1, none⟩ = some (.slice A2_1 l2_1.length c2_1) ∧ w'.cell? ⟨gb511, 2, none⟩ = some (.slice A2_2 l2_2.length c2_2)) (ds := []) #[false, false, false, false, false] (by kernel_rfl) rfl rfl ⟨(blk_cell BK529.out 0).trans rfl, (blk_cell BK529.out 1).trans rfl, (blk_cell BK529.out 2).trans rfl, (blk_cell BK511.out 0).trans rfl, (blk_cell BK511.out 1).trans rfl, (blk_cell BK511.out 2).trans rfl⟩ (fun hHeld => ?_)
        generalize wc.drew = w44 at HO_530001 HO_530002 BK511 BK529 HB hHeld ⊢
        refine take_ (i := 0) (N := some 49) (v := ?_) (a' := ?_) #[true, false, false, false, false] rfl rfl (by kernel_rfl) (fun _ _ _ h => h) (Or.inl ⟨by rfl, ?_⟩) hHeld ?_ ?_
        rotate_left
        ·rintro w' ⟨s0, s1, s2, s3, s4, s5⟩
         go_simp
         with_reducible rfl
        rotate_left
        ·simp only [Act.put, List.setIfInBounds_toArray, List.set_cons_zero, List.set_cons_succ, i64_w, i32_w]
         rfl
        refine take_ (i := 1) (N := some 50) (v := ?_) (a' := ?_) #[true, true, false, false, false] rfl rfl (by kernel_rfl) (fun _ _ _ h => h) (Or.inl ⟨by rfl, ?_⟩) hHeld ?_ ?_
        rotate_left
        ·rintro w' ⟨s0, s1, s2, s3, s4, s5⟩
         go_simp
         with_reducible rfl
        rotate_left
        ·simp only [Act.put, List.setIfInBounds_toArray, List.set_cons_zero, List.set_cons_succ, i64_w, i32_w]
         rfl
        refine one_ (i := 2) (N := some 51) #[true, true, true, false, false] rfl rfl (by kernel_rfl) (by decide) (fun K hK => ?_)
        refine goes_ Try.func33 (by kernel_rfl) rfl #[.agg #[.int .i64 a2_0, .slice A2_1 l2_1.length c2_1, .slice A2_2 l2_2.length c2_2]] (by rfl) rfl rfl (by (try simp only [List.map_toArray, List.map_cons, List.map_nil]); first | done | rfl | (simp only [List.length_drop, List.length_take]; rfl)) ?_
        with_reducible refine (laws_toSeal.calls kj16 a2_0 _ _ l2_1 _ _ l2_2 t532 t533 t536 _ ?side1 ?side2 ?side3 ?side4 A36.out).mono ?_
        (case side1 => repeat (first | exact (Kd.C_below HR2_1.out HB.out) | (with_reducible refine Kd.C_alloc ?_ _) | (with_reducible refine Kd.C_drewN ?_ _) | (with_reducible refine Kd.C_drew ?_)))
        (case side2 => exact HC2_1.out)
        (case side3 => repeat (first | exact (Kd.C_below HR2_2.out HB.out) | (with_reducible refine Kd.C_alloc ?_ _) | (with_reducible refine Kd.C_drewN ?_ _) | (with_reducible refine Kd.C_drew ?_)))
        (case side4 => exact HC2_2.out)
        rintro e w45 ⟨v534, v537, rfl, ho0, ho1, hb⟩
        refine ⟨_, rfl, ?_⟩
        have n0_ := Aside0.mk (Kd.R_mono (Kd.R_told (Kd.R_told (Kd.R_old (by (with_reducible repeat (first | apply Kd.R_alloc | apply Kd.R_drewN | apply Kd.R_drew)); exact HO_530001.out) hb) (Kd.R_base ho0)) (Kd.R_base ho1)) (fun _ h_ => h_.1))
        have n1_ := Aside0.mk (Kd.R_mono (Kd.R_told (Kd.R_told (Kd.R_old (by (with_reducible repeat (first | apply Kd.R_alloc | apply Kd.R_drewN | apply Kd.R_drew)); exact HO_530002.out) hb) (Kd.R_base ho0)) (Kd.R_base ho1)) (fun _ h_ => h_.1))
        have n2_ := Aside0.mk (Kd.R_lower (Kd.R_new' (Kd.R_new' ho0 (Kd.R_lt (by (with_reducible repeat (first | apply Kd.R_alloc | apply Kd.R_drewN | apply Kd.R_drew)); exact HO_530001.out))) (Kd.R_lt (by (with_reducible repeat (first | apply Kd.R_alloc | apply Kd.R_drewN | apply Kd.R_drew)); exact HO_530002.out))) (below_size (by repeat (first | (with_reducible first | exact HB.out | apply below_alloc | apply pw_below_drewN | apply below_drew1 | refine below_set ?_ GE511.out | refine below_set ?_ GE529.out) | exact HB.out))))
        have n3_ := Aside0.mk (Kd.R_lower (Kd.R_new' (Kd.R_new' ho1 (Kd.R_lt (by (with_reducible repeat (first | apply Kd.R_alloc | apply Kd.R_drewN | apply Kd.R_drew)); exact HO_530001.out))) (Kd.R_lt (by (with_reducible repeat (first | apply Kd.R_alloc | apply Kd.R_drewN | apply Kd.R_drew)); exact HO_530002.out))) (below_size (by repeat (first | (with_reducible first | exact HB.out | apply below_alloc | apply pw_below_drewN | apply below_drew1 | refine below_set ?_ GE511.out | refine below_set ?_ GE529.out) | exact HB.out))))
        have n4_ := Aside0.mk (blk_below (g := gb511) (o := .cells #[.int .i64 a2_0, .slice A2_1 l2_1.length c2_1, .slice A2_2 l2_2.length c2_2] 47 (0, 0)) (by (with_reducible repeat (first | refine blk_drewN ?_ _ | refine blk_drew ?_ | refine blk_alloc ?_ _)); exact BK511.out) hb)
        have n5_ := Aside0.mk (blk_below (g := gb529) (o := .cells #[.int .i64 t522, .slice Ao31 t523.length co31, .slice Ao32 t526.length co32] 50 (0, 0)) (by (with_reducible repeat (first | refine blk_drewN ?_ _ | refine blk_drew ?_ | refine blk_alloc ?_ _)); exact BK529.out) hb)
        have n6_ := Aside0.mk (below_step (by repeat (first | (with_reducible first | exact HB.out | apply below_alloc | apply pw_below_drewN | apply below_drew1 | refine below_set ?_ GE511.out | refine below_set ?_ GE529.out) | exact HB.out)) hb)
        clear HO_530001
        clear HO_530002
        clear BK511
        clear BK529
        clear HB
        have HO_530001 := n0_
        have HO_530002 := n1_
        have HO535 := n2_
        have HO538 := n3_
        have BK511 := n4_
        have BK529 := n5_
        have HB := n6_
        clear n0_ n1_ n2_ n3_ n4_ n5_ n6_
        (try clear hb)
        (try clear hb2)
        (try clear hk)
        (try clear hi)
        (try clear ho0)
        (try clear ho1)
        obtain ⟨Ao46, co46, eo46⟩ := Kd.R_slice HO535.out
        (first | subst eo46 | (injection eo46 with f1_ f2_ f3_; have f4_ := f1_.symm; have f5_ := f3_.symm; clear f1_ f2_ f3_; subst f4_; subst f5_))
        obtain ⟨Ao47, co47, eo47⟩ := Kd.R_slice HO538.out
        (first | subst eo47 | (injection eo47 with f1_ f2_ f3_; have f4_ := f1_.symm; have f5_ := f3_.symm; clear f1_ f2_ f3_; subst f4_; subst f5_))
        refine hK.out _ _ ⟨(blk_cell BK529.out 0).trans rfl, (blk_cell BK529.out 1).trans rfl, (blk_cell BK529.out 2).trans rfl, (blk_cell BK511.out 0).trans rfl, (blk_cell BK511.out 1).trans rfl, (blk_cell BK511.out 2).trans rfl⟩ (fun hHeld => ?_)
        clear hK K
        refine norm_ (a' := ?_) ?_ ?_
        rotate_left
        ·show Act.put _ (some 51) _ = _
         simp only [Act.put, List.setIfInBounds_toArray, List.set_cons_zero, List.set_cons_succ, i64_w, i32_w]
         rfl
        refine one_ (i := 3) (N := some 52) #[true, true, true, true, false] rfl rfl (by kernel_rfl) (by decide) (fun K hK => ?_)
        refine goes_ Try.func35 (by kernel_rfl) rfl #[.agg #[.int .i64 t522, .slice Ao31 t523.length co31, .slice Ao32 t526.length co32], .agg #[.int .i64 t532, .slice Ao46 t533.length co46, .slice Ao47 t536.length co47]] (by rfl) rfl rfl (by (try simp only [List.map_toArray, List.map_cons, List.map_nil]); first | done | rfl | (simp only [List.length_drop, List.length_take]; rfl)) ?_
        with_reducible refine (laws_eqSeal.calls kj16 t522 _ _ t523 _ _ t526 t532 _ _ t533 _ _ t536 false _ ?side1 ?side2 ?side3 ?side4 ?side5 ?side6 ?side7 ?side8 A37.out).mono ?_
        (case side1 => repeat (first | exact (Kd.R_reads' HO_530001.out).2.2 | (with_reducible refine Kd.C_alloc ?_ _) | (with_reducible refine Kd.C_drewN ?_ _) | (with_reducible refine Kd.C_drew ?_)))
        (case side2 => exact (Kd.R_reads' HO_530001.out).2.1)
        (case side3 => repeat (first | exact (Kd.R_reads' HO_530002.out).2.2 | (with_reducible refine Kd.C_alloc ?_ _) | (with_reducible refine Kd.C_drewN ?_ _) | (with_reducible refine Kd.C_drew ?_)))
        (case side4 => exact (Kd.R_reads' HO_530002.out).2.1)
        (case side5 => repeat (first | exact (Kd.R_reads' HO535.out).2.2 | (with_reducible refine Kd.C_alloc ?_ _) | (with_reducible refine Kd.C_drewN ?_ _) | (with_reducible refine Kd.C_drew ?_)))
        (case side6 => exact (Kd.R_reads' HO535.out).2.1)
        (case side7 => repeat (first | exact (Kd.R_reads' HO538.out).2.2 | (with_reducible refine Kd.C_alloc ?_ _) | (with_reducible refine Kd.C_drewN ?_ _) | (with_reducible refine Kd.C_drew ?_)))
        (case side8 => exact (Kd.R_reads' HO538.out).2.1)
        rintro e w48 ⟨rfl, hb⟩
        refine ⟨_, rfl, ?_⟩
        have n0_ := Aside0.mk (Kd.R_below (by (with_reducible repeat (first | apply Kd.R_alloc | apply Kd.R_drewN | apply Kd.R_drew)); exact HO_530001.out) hb)
        have n1_ := Aside0.mk (Kd.R_below (by (with_reducible repeat (first | apply Kd.R_alloc | apply Kd.R_drewN | apply Kd.R_drew)); exact HO_530002.out) hb)
        have n2_ := Aside0.mk (Kd.R_below (by (with_reducible repeat (first | apply Kd.R_alloc | apply Kd.R_drewN | apply Kd.R_drew)); exact HO535.out) hb)
        have n3_ := Aside0.mk (Kd.R_below (by (with_reducible repeat (first | apply Kd.R_alloc | apply Kd.R_drewN | apply Kd.R_drew)); exact HO538.out) hb)
        have n4_ := Aside0.mk (blk_below (g := gb511) (o := .cells #[.int .i64 a2_0, .slice A2_1 l2_1.length c2_1, .slice A2_2 l2_2.length c2_2] 47 (0, 0)) (by (with_reducible repeat (first | refine blk_drewN ?_ _ | refine blk_drew ?_ | refine blk_alloc ?_ _)); exact BK511.out) hb)
        have n5_ := Aside0.mk (blk_below (g := gb529) (o := .cells #[.int .i64 t522, .slice Ao31 t523.length co31, .slice Ao32 t526.length co32] 50 (0, 0)) (by (with_reducible repeat (first | refine blk_drewN ?_ _ | refine blk_drew ?_ | refine blk_alloc ?_ _)); exact BK529.out) hb)
        have n6_ := Aside0.mk (below_step (by repeat (first | (with_reducible first | exact HB.out | apply below_alloc | apply pw_below_drewN | apply below_drew1 | refine below_set ?_ GE511.out | refine below_set ?_ GE529.out) | exact HB.out)) hb)
        clear HO_530001
        clear HO_530002
        clear HO535
        clear HO538
        clear BK511
        clear BK529
        clear HB
        have HO_530001 := n0_
        have HO_530002 := n1_
        have HO535 := n2_
        have HO538 := n3_
        have BK511 := n4_
        have BK529 := n5_
        have HB := n6_
        clear n0_ n1_ n2_ n3_ n4_ n5_ n6_
        (try clear hb)
        (try clear hb2)
        (try clear hk)
        (try clear hi)
        refine hK.out _ _ ⟨(blk_cell BK529.out 0).trans rfl, (blk_cell BK529.out 1).trans rfl, (blk_cell BK529.out 2).trans rfl, (blk_cell BK511.out 0).trans rfl, (blk_cell BK511.out 1).trans rfl, (blk_cell BK511.out 2).trans rfl⟩ (fun hHeld => ?_)
        clear hK K
        refine norm_ (a' := ?_) ?_ ?_
        rotate_left
        ·show Act.put _ (some 52) _ = _
         simp only [Act.put, List.setIfInBounds_toArray, List.set_cons_zero, List.set_cons_succ, i64_w, i32_w]
         rfl
        refine pure_ (i := 4) (N := some 53) (v := ?_) (a' := ?_) #[true, true, true, true, true] rfl rfl (by kernel_rfl) (fun _ _ _ h => h) (Or.inl ⟨by rfl, ?_⟩) ?_ ?_
        rotate_left
        ·intro w'
         go_simp
         with_reducible rfl
        rotate_left
        ·simp only [Act.put, List.setIfInBounds_toArray, List.set_cons_zero, List.set_cons_succ, i64_w, i32_w]
         rfl
        refine done_ (by kernel_rfl) ?_
        try go_wp2
        go_ret
        exact ⟨by first | rfl | (simp [errW_none, errW_some] <;> rfl) | (simp [*, errW_none, errW_some] <;> rfl), by repeat (first | (with_reducible first | exact HB.out | apply below_alloc | apply pw_below_drewN | apply below_drew1 | refine below_set ?_ GE511.out | refine below_set ?_ GE529.out) | exact HB.out)⟩
end Go.Proofs.Ytfajabboibcgpaa.PA
end
section
namespace Go.Proofs.Ytfajabboibcgpaa.PA
open Go.RowKit Go.Proofs.YtfajabboibcgpaaW.PrintWords Go.Proofs.YtfajabboibcgpaaW.PrintLast Go.Proofs.YtfajabboibcgpaaW.PrintMore
attribute [local go_sem] max2_int min2_int max_two min_two max_three min_three max_four min_four   -- for this text's walks alone
set_option linter.unusedVariables false
set_option linter.unusedSimpArgs false
end Go.Proofs.Ytfajabboibcgpaa.PA
end
section
namespace Go.Proofs.Ytfajabboibcgpaa.PA
open Go.RowKit Go.Proofs.YtfajabboibcgpaaW.PrintWords Go.Proofs.YtfajabboibcgpaaW.PrintLast Go.Proofs.YtfajabboibcgpaaW.PrintMore
attribute [local go_sem] max2_int min2_int max_two min_two max_three min_three max_four min_four   -- for this text's walks alone
set_option linter.unusedVariables false
set_option linter.unusedSimpArgs false
end Go.Proofs.Ytfajabboibcgpaa.PA
end
section
namespace Go.Proofs.Ytfajabboibcgpaa.PA
open Go.RowKit Go.Proofs.YtfajabboibcgpaaW.PrintWords Go.Proofs.YtfajabboibcgpaaW.PrintLast Go.Proofs.YtfajabboibcgpaaW.PrintMore
attribute [local go_sem] max2_int min2_int max_two min_two max_three min_three max_four min_four   -- for this text's walks alone
set_option linter.unusedVariables false
set_option linter.unusedSimpArgs false
end Go.Proofs.Ytfajabboibcgpaa.PA
end
section
namespace Go.Proofs.Ytfajabboibcgpaa.PA
open Go.RowKit Go.Proofs.YtfajabboibcgpaaW.PrintWords Go.Proofs.YtfajabboibcgpaaW.PrintLast Go.Proofs.YtfajabboibcgpaaW.PrintMore
attribute [local go_sem] max2_int min2_int max_two min_two max_three min_three max_four min_four   -- for this text's walks alone
set_option linter.unusedVariables false
set_option linter.unusedSimpArgs false
end Go.Proofs.Ytfajabboibcgpaa.PA
end
section
namespace Go.Proofs.Ytfajabboibcgpaa.PA
open Go.RowKit Go.Proofs.YtfajabboibcgpaaW.PrintWords Go.Proofs.YtfajabboibcgpaaW.PrintLast Go.Proofs.YtfajabboibcgpaaW.PrintMore
attribute [local go_sem] max2_int min2_int max_two min_two max_three min_three max_four min_four   -- for this text's walks alone
set_option linter.unusedVariables false
set_option linter.unusedSimpArgs false
end Go.Proofs.Ytfajabboibcgpaa.PA
end
section
namespace Go.Proofs.Ytfajabboibcgpaa.PA
open Go.RowKit Go.Proofs.YtfajabboibcgpaaW.PrintWords Go.Proofs.YtfajabboibcgpaaW.PrintLast Go.Proofs.YtfajabboibcgpaaW.PrintMore
attribute [local go_sem] max2_int min2_int max_two min_two max_three min_three max_four min_four   -- for this text's walks alone
set_option linter.unusedVariables false
set_option linter.unusedSimpArgs false
end Go.Proofs.Ytfajabboibcgpaa.PA
end
section
namespace Go.Proofs.Ytfajabboibcgpaa.PA
open Go.RowKit Go.Proofs.YtfajabboibcgpaaW.PrintWords Go.Proofs.YtfajabboibcgpaaW.PrintLast Go.Proofs.YtfajabboibcgpaaW.PrintMore
attribute [local go_sem] max2_int min2_int max_two min_two max_three min_three max_four min_four   -- for this text's walks alone
set_option linter.unusedVariables false
set_option linter.unusedSimpArgs false
end Go.Proofs.Ytfajabboibcgpaa.PA
end
section
namespace Go.Proofs.Ytfajabboibcgpaa.PA
open Go.RowKit Go.Proofs.YtfajabboibcgpaaW.PrintWords Go.Proofs.YtfajabboibcgpaaW.PrintLast Go.Proofs.YtfajabboibcgpaaW.PrintMore
attribute [local go_sem] max2_int min2_int max_two min_two max_three min_three max_four min_four   -- for this text's walks alone
set_option linter.unusedVariables false
set_option linter.unusedSimpArgs false
end Go.Proofs.Ytfajabboibcgpaa.PA
end
section
namespace Go.Proofs.Ytfajabboibcgpaa.PA
open Go.RowKit Go.Proofs.YtfajabboibcgpaaW.PrintWords Go.Proofs.YtfajabboibcgpaaW.PrintLast Go.Proofs.YtfajabboibcgpaaW.PrintMore
attribute [local go_sem] max2_int min2_int max_two min_two max_three min_three max_four min_four   -- for this text's walks alone
set_option linter.unusedVariables false
set_option linter.unusedSimpArgs false
end Go.Proofs.Ytfajabboibcgpaa.PA
end
section
namespace Go.Proofs.Ytfajabboibcgpaa.PA
open Go.RowKit Go.Proofs.YtfajabboibcgpaaW.PrintWords Go.Proofs.YtfajabboibcgpaaW.PrintLast Go.Proofs.YtfajabboibcgpaaW.PrintMore
attribute [local go_sem] max2_int min2_int max_two min_two max_three min_three max_four min_four   -- for this text's walks alone
set_option linter.unusedVariables false
set_option linter.unusedSimpArgs false
end Go.Proofs.Ytfajabboibcgpaa.PA
end
section
namespace Go.Proofs.Ytfajabboibcgpaa.PA
open Go.RowKit Go.Proofs.YtfajabboibcgpaaW.PrintWords Go.Proofs.YtfajabboibcgpaaW.PrintLast Go.Proofs.YtfajabboibcgpaaW.PrintMore
attribute [local go_sem] max2_int min2_int max_two min_two max_three min_three max_four min_four   -- for this text's walks alone
set_option linter.unusedVariables false
set_option linter.unusedSimpArgs false
end Go.Proofs.Ytfajabboibcgpaa.PA
end
section
namespace Go.Proofs.Ytfajabboibcgpaa.PA
open Go.RowKit Go.Proofs.YtfajabboibcgpaaW.PrintWords Go.Proofs.YtfajabboibcgpaaW.PrintLast Go.Proofs.YtfajabboibcgpaaW.PrintMore
attribute [local go_sem] max2_int min2_int max_two min_two max_three min_three max_four min_four   -- for this text's walks alone
set_option linter.unusedVariables false
set_option linter.unusedSimpArgs false
end Go.Proofs.Ytfajabboibcgpaa.PA
end
section
namespace Go.Proofs.Ytfajabboibcgpaa.PA
open Go.RowKit Go.Proofs.YtfajabboibcgpaaW.PrintWords Go.Proofs.YtfajabboibcgpaaW.PrintLast Go.Proofs.YtfajabboibcgpaaW.PrintMore
attribute [local go_sem] max2_int min2_int max_two min_two max_three min_three max_four min_four   -- for this text's walks alone
set_option linter.unusedVariables false
set_option linter.unusedSimpArgs false
end Go.Proofs.Ytfajabboibcgpaa.PA
end
section
namespace Go.Proofs.Ytfajabboibcgpaa.PA
open Go.RowKit Go.Proofs.YtfajabboibcgpaaW.PrintWords Go.Proofs.YtfajabboibcgpaaW.PrintLast Go.Proofs.YtfajabboibcgpaaW.PrintMore
attribute [local go_sem] max2_int min2_int max_two min_two max_three min_three max_four min_four   -- for this text's walks alone
set_option linter.unusedVariables false
set_option linter.unusedSimpArgs false
end Go.Proofs.Ytfajabboibcgpaa.PA
end
section
namespace Go.Proofs.Ytfajabboibcgpaa.PA
open Go.RowKit Go.Proofs.YtfajabboibcgpaaW.PrintWords Go.Proofs.YtfajabboibcgpaaW.PrintLast Go.Proofs.YtfajabboibcgpaaW.PrintMore
attribute [local go_sem] max2_int min2_int max_two min_two max_three min_three max_four min_four   -- for this text's walks alone
set_option linter.unusedVariables false
set_option linter.unusedSimpArgs false
end Go.Proofs.Ytfajabboibcgpaa.PA
end
section
namespace Go.Proofs.Ytfajabboibcgpaa.PA
open Go.RowKit Go.Proofs.YtfajabboibcgpaaW.PrintWords Go.Proofs.YtfajabboibcgpaaW.PrintLast Go.Proofs.YtfajabboibcgpaaW.PrintMore
attribute [local go_sem] max2_int min2_int max_two min_two max_three min_three max_four min_four   -- for this text's walks alone
set_option linter.unusedVariables false
set_option linter.unusedSimpArgs false
end Go.Proofs.Ytfajabboibcgpaa.PA
end
section
namespace Go.Proofs.Ytfajabboibcgpaa.PA
open Go.RowKit Go.Proofs.YtfajabboibcgpaaW.PrintWords Go.Proofs.YtfajabboibcgpaaW.PrintLast Go.Proofs.YtfajabboibcgpaaW.PrintMore
attribute [local go_sem] max2_int min2_int max_two min_two max_three min_three max_four min_four   -- for this text's walks alone
set_option linter.unusedVariables false
set_option linter.unusedSimpArgs false
end Go.Proofs.Ytfajabboibcgpaa.PA
end
section
namespace Go.Proofs.Ytfajabboibcgpaa.PB
open Go.RowKit Go.Proofs.YtfajabboibcgpaaW.PrintWords Go.Proofs.YtfajabboibcgpaaW.PrintLast Go.Proofs.YtfajabboibcgpaaW.PrintMore
set_option linter.unusedVariables false
theorem ev_pos {α : Type} {c : Prop} [Decidable c] {f g : Nat → Option α} {r : α} (hc : c) (h : Ev f r) : Ev (fun k => if c then f k else g k) r := by
  simp only [if_pos hc]; exact h
theorem ev_neg {α : Type} {c : Prop} [Decidable c] {f g : Nat → Option α} {r : α} (hc : ¬ c) (h : Ev g r) : Ev (fun k => if c then f k else g k) r := by
  simp only [if_neg hc]; exact h
theorem ev_bind {α β : Type} {g : Nat → Option α} {f : Nat → α → Option β} {a : α} {r : β} (h : Ev g a) (k : Ev (fun n => f n a) r) : Ev (fun n => (g n).bind (f n)) r := Ev.bind h k
theorem ev_const {α β : Type} {o : Option α} {f : Nat → α → Option β} {a : α} {r : β} (h : o = some a) (k : Ev (fun n => f n a) r) : Ev (fun n => o.bind (f n)) r := by
  subst h; exact k
theorem ev_of_eq {α : Type} {o : Option α} {r : α} (h : o = some r) : Ev (fun _ => o) r := by subst h; exact Ev.now r
theorem ev_eq {α : Type} {f : Nat → Option α} {r r' : α} (h : Ev f r) (e : r = r') : Ev f r' := e ▸ h
theorem w64 {x : Int} (h0 : -9223372036854775808 ≤ x) (h1 : x ≤ 9223372036854775807) : wrap64 x = x := by
  unfold wrap64; omega
theorem size_toList (s : ByteArray) : s.toList.length = s.size := by rw [ByteArray.toList_eq]; exact data_length s
theorem bt_get (s : ByteArray) (i : Nat) (h : i < s.size) : bt s (i : Int) = ((s.toList.getD i 0).toNat : Int) := by
  rw [ByteArray.toList_eq]
  unfold bt
  rw [dif_pos (by simpa using h)]
  have h' : i < s.data.toList.length := by rw [data_length]; exact h
  simp [List.getD_eq_getElem?_getD, List.getElem?_eq_getElem h']
  rfl
end Go.Proofs.Ytfajabboibcgpaa.PB
end
section
namespace Go.Proofs.Ytfajabboibcgpaa.PD
open Go.RowKit Go.Proofs.YtfajabboibcgpaaW.PrintWords Go.Proofs.YtfajabboibcgpaaW.PrintLast Go.Proofs.YtfajabboibcgpaaW.PrintMore Go.Proofs.Ytfajabboibcgpaa.PB Go.Proofs.Ytfajabboibcgpaa.PA
set_option linter.unusedVariables false
def dstep (p : Int × Int) (c : UInt8) : Int × Int := ((p.1 + (c.toNat : Int)) % 65521, (p.2 + (p.1 + (c.toNat : Int)) % 65521) % 65521)
def dfold (p : Int × Int) (l : List UInt8) : Int × Int := l.foldl dstep p
def InP (p : Int × Int) : Prop := 0 ≤ p.1 ∧ p.1 < 65521 ∧ 0 ≤ p.2 ∧ p.2 < 65521
theorem dstep_in {p : Int × Int} {c : UInt8} : InP (dstep p c) := by
  unfold InP dstep; refine ⟨?_, ?_, ?_, ?_⟩ <;> simp only <;> omega
theorem dfold_in {p : Int × Int} (h : InP p) (l : List UInt8) : InP (dfold p l) := by
  induction l generalizing p with
  | nil => exact h
  | cons c l ih => exact ih dstep_in
def four (p : Int × Int) : ByteArray := strOfNums [p.2 / 256 % 256, p.2 % 256, p.1 / 256 % 256, p.1 % 256]
def dig (kind : Int) (s : ByteArray) : ByteArray := four (dfold (kind + 1, kind + 1) s.toList)
theorem four_size (p : Int × Int) : (four p).size = 4 := by unfold four; rw [strOfNums_size]; rfl
theorem dig_size (kind : Int) (s : ByteArray) : (dig kind s).size = 4 := four_size _
theorem drop_at (l : List UInt8) (i : Nat) (h : i < l.length) : l.drop i = l.getD i 0 :: l.drop (i + 1) := by
  rw [List.drop_eq_getElem_cons h]; simp [List.getD_eq_getElem?_getD, List.getElem?_eq_getElem h]
theorem step_arith {A B : Int} {c : Nat} (hA : 0 ≤ A ∧ A < 65521 ∧ 0 ≤ B ∧ B < 65521) (hc : c < 256) :
    Int.tmod (wrap64 (A + wrap64 (c : Int))) 65521 = (A + (c : Int)) % 65521 ∧ Int.tmod (wrap64 (B + (A + (c : Int)) % 65521)) 65521 = (B + (A + (c : Int)) % 65521) % 65521 := by
  have h1 : wrap64 (c : Int) = c := w64 (by omega) (by omega)
  have h2 : wrap64 (A + c) = A + c := w64 (by omega) (by omega)
  have h3 : wrap64 (B + (A + (c : Int)) % 65521) = B + (A + (c : Int)) % 65521 := w64 (by omega) (by omega)
  rw [h1, h2, h3, Int.tmod_eq_emod_of_nonneg (by omega), Int.tmod_eq_emod_of_nonneg (by omega)]
  exact ⟨rfl, rfl⟩
theorem feed_spec (s : ByteArray) (hs : s.size ≤ 1000000000000) (L : Int) (hL : 0 ≤ L ∧ L ≤ 1000000000000) : ∀ (d i : Nat) (A B : Int), i + d = s.size → InP (A, B) →
    Ev (fun k => spec_l1Feed.l0 k s (i : Int) A B L) ((dfold (A, B) (s.toList.drop i)).1, (dfold (A, B) (s.toList.drop i)).2, L + s.size) := by
  intro d
  induction d with
  | zero =>
    intro i A B hi hp
    refine Ev.step (f := fun _ => some (A, B, wrap64 (L + (s.size : Int)))) (fun k => ?_) ?_
    · simp only [spec_l1Feed.l0]; rw [if_neg (by omega)]
    · rw [List.drop_eq_nil_of_le (by rw [size_toList]; omega)]
      rw [w64 (by omega) (by omega)]
      exact Ev.now _
  | succ d ih =>
    intro i A B hi hp
    have hlt : i < s.size := by omega
    have hb := bt_get s i hlt
    have hc : (s.toList.getD i 0).toNat < 256 := UInt8.toNat_lt _
    have ha := step_arith (A := A) (B := B) hp hc
    refine Ev.step (f := fun k => spec_l1Feed.l0 k s ((i + 1 : Nat) : Int) (dstep (A, B) (s.toList.getD i 0)).1 (dstep (A, B) (s.toList.getD i 0)).2 L) (fun k => ?_) ?_
    · simp only [spec_l1Feed.l0]; rw [if_pos (by omega), if_pos (by omega), hb, ha.1, ha.2, w64 (x := (i : Int) + 1) (by omega) (by omega)]
      simp only [dstep]
      congr 1
    · rw [drop_at _ _ (by rw [size_toList]; exact hlt)]
      exact ih (i + 1) _ _ (by omega) dstep_in
theorem feed_impl (s : ByteArray) (hs : s.size ≤ 1000000000000) (L : Int) (hL : 0 ≤ L ∧ L ≤ 1000000000000) : ∀ (d i : Nat) (A B : Int), i + d = s.size → InP (A, B) →
    Ev (fun k => impl_Mix_feed.l0 k s (s.size : Int) (i : Int) A B L) ((dfold (A, B) (s.toList.drop i)).1, (dfold (A, B) (s.toList.drop i)).2, L + s.size) := by
  intro d
  induction d with
  | zero =>
    intro i A B hi hp
    refine Ev.step (f := fun _ => some (A, B, wrap64 (L + (s.size : Int)))) (fun k => ?_) ?_
    · simp only [impl_Mix_feed.l0]; rw [if_neg (by omega)]
    · rw [List.drop_eq_nil_of_le (by rw [size_toList]; omega)]
      rw [w64 (by omega) (by omega)]
      exact Ev.now _
  | succ d ih =>
    intro i A B hi hp
    have hlt : i < s.size := by omega
    have hb := bt_get s i hlt
    have hc : (s.toList.getD i 0).toNat < 256 := UInt8.toNat_lt _
    have ha := step_arith (A := A) (B := B) hp hc
    refine Ev.step (f := fun k => impl_Mix_feed.l0 k s (s.size : Int) ((i + 1 : Nat) : Int) (dstep (A, B) (s.toList.getD i 0)).1 (dstep (A, B) (s.toList.getD i 0)).2 L) (fun k => ?_) ?_
    · simp only [impl_Mix_feed.l0]; rw [if_pos (by omega), if_pos (by omega), if_pos (by omega), hb, ha.1, ha.2, w64 (x := (i : Int) + 1) (by omega) (by omega)]
      simp only [dstep]
      congr 1
    · rw [drop_at _ _ (by rw [size_toList]; exact hlt)]
      exact ih (i + 1) _ _ (by omega) dstep_in
def Kd_ (c : Int) : Prop := 97 ≤ c ∧ c ≤ 122
theorem digS (kind : Int) (hk : Kd_ kind) (s : ByteArray) (hs : s.size ≤ 1000000000000) : Ev (fun k => spec_l1Digest.f k kind s) (dig kind s) := by
  obtain ⟨h0, h1⟩ := hk
  have e1 : spec_NewMix.f kind = some (kind + 1, kind + 1, 0, true) := by
    unfold spec_NewMix.f spec_l1Kind.f
    rw [if_pos (by omega)]
    simp only [Option.bind_some, decide_eq_true h1, if_true]
    rw [w64 (x := kind) (by omega) (by omega), w64 (by omega) (by omega), Int.add_comm]
  have hp : InP (kind + 1, kind + 1) := by unfold InP; refine ⟨?_, ?_, ?_, ?_⟩ <;> simp only <;> omega
  obtain ⟨K, h⟩ := feed_spec s hs 0 (by omega) s.size 0 (kind + 1) (kind + 1) (by omega) hp
  refine ⟨K, fun k hk => ?_⟩
  have h' := h k hk
  dsimp only at h'
  rw [show ((0 : Nat) : Int) = 0 from rfl] at h'
  unfold spec_l1Digest.f spec_l1Feed.f spec_l1End.f
  simp only [e1, Option.bind_some]
  rw [h']
  simp only [Option.bind_some, List.drop_zero]
  rfl
theorem digI (kind : Int) (hk : Kd_ kind) (s : ByteArray) (hs : s.size ≤ 1000000000000) : Ev (fun k => impl_digest.f k kind s) (dig kind s) := by
  obtain ⟨h0, h1⟩ := hk
  have e1 : impl_newMix.f kind = some (kind + 1, kind + 1, 0) := by
    unfold impl_newMix.f
    rw [w64 (x := kind) (by omega) (by omega), w64 (by omega) (by omega)]
  have hp : InP (kind + 1, kind + 1) := by unfold InP; refine ⟨?_, ?_, ?_, ?_⟩ <;> simp only <;> omega
  obtain ⟨K, h⟩ := feed_impl s hs 0 (by omega) s.size 0 (kind + 1) (kind + 1) (by omega) hp
  refine ⟨K, fun k hk => ?_⟩
  have h' := h k hk
  dsimp only at h'
  rw [show ((0 : Nat) : Int) = 0 from rfl] at h'
  have hq := dfold_in hp s.toList
  unfold impl_digest.f impl_Mix_feed.f impl_Mix_end.f
  simp only [e1, Option.bind_some]
  rw [h']
  simp only [Option.bind_some, List.drop_zero]
  unfold dig four
  generalize dfold (kind + 1, kind + 1) s.toList = p at hq ⊢
  obtain ⟨q0, q1, q2, q3⟩ := hq
  rw [Int.tdiv_eq_ediv_of_nonneg q2, Int.tdiv_eq_ediv_of_nonneg q0, Int.tmod_eq_emod_of_nonneg q2, Int.tmod_eq_emod_of_nonneg q0, w64 (x := p.2 / 256) (by omega) (by omega), w64 (x := p.1 / 256) (by omega) (by omega)]
  rw [Int.emod_emod_of_dvd p.2 (Int.dvd_refl _), Int.emod_emod_of_dvd p.1 (Int.dvd_refl _)]
def one (n : Int) : ByteArray := strOfNums [n % 256]
theorem one_size (n : Int) : (one n).size = 1 := by unfold one; rw [strOfNums_size]; rfl
theorem oneI (n : Int) : impl_oneByte.f n = some (one n) := rfl
end Go.Proofs.Ytfajabboibcgpaa.PD
end
section
namespace Go.Proofs.Ytfajabboibcgpaa.PK
open Go.RowKit Go.Proofs.YtfajabboibcgpaaW.PrintWords Go.Proofs.YtfajabboibcgpaaW.PrintLast Go.Proofs.YtfajabboibcgpaaW.PrintMore Go.Proofs.Ytfajabboibcgpaa.PB Go.Proofs.Ytfajabboibcgpaa.PD Go.Proofs.Ytfajabboibcgpaa.PA
set_option linter.unusedVariables false
def chainM (s : ByteArray) (i : Nat) : Nat → ByteArray
  | 0 => s
  | n + 1 => chainM (dig 99 (one (i : Int) ++ s)) (i + 1) n
theorem chainM_size (s : ByteArray) (h : s.size = 4) (n : Nat) : ∀ i, (chainM s i n).size = 4 := by
  induction n generalizing s with
  | zero => intro i; exact h
  | succ n ih => intro i; exact ih _ (dig_size _ _) _
theorem kc : Kd_ 99 := ⟨by decide, by decide⟩
theorem app_size (a b : ByteArray) : (a ++ b).size = a.size + b.size := ByteArray.size_append
theorem chainS0 (a b : Nat) (ha : a + b ≤ 1000) : ∀ (n i : Nat) (s : ByteArray), s.size ≤ 1000000 → i + n = a + b → Ev (fun k => spec_l2Chain.l0 k s (a : Int) (b : Int) (i : Int)) (chainM s i n) := by
  intro n
  induction n with
  | zero =>
    intro i s hs hi
    refine Ev.step (f := fun _ => some s) (fun k => ?_) (Ev.now _)
    simp only [spec_l2Chain.l0]
    rw [w64 (by omega) (by omega), if_neg (by omega)]
  | succ n ih =>
    intro i s hs hi
    refine Ev.step (f := fun k => (spec_l1Digest.f k 99 (one (i : Int) ++ s)).bind fun t => spec_l2Chain.l0 k t (a : Int) (b : Int) ((i + 1 : Nat) : Int)) (fun k => ?_) ?_
    · simp only [spec_l2Chain.l0]
      rw [w64 (x := (a : Int) + b) (by omega) (by omega), if_pos (by omega)]
      simp only [Option.bind_some]
      rw [if_pos (by rw [strOfNums_size]; simp only [List.length_cons, List.length_nil]; omega), w64 (x := (i : Int) + 1) (by omega) (by omega)]
      rfl
    · exact ev_bind (digS 99 kc _ (by rw [app_size, one_size]; omega)) (ih (i + 1) _ (by rw [dig_size]; omega) (by omega))
theorem chainS (s : ByteArray) (a b : Nat) (ha : a + b ≤ 1000) (hs : s.size ≤ 1000000) : Ev (fun k => spec_l2Chain.f k s (a : Int) (b : Int)) (chainM s a b) :=
  chainS0 a b ha b a s hs rfl
theorem chainI0 (a b : Nat) (ha : a + b ≤ 1000) : ∀ (n i : Nat) (s : ByteArray), s.size ≤ 1000000 → i + n = a + b → Ev (fun k => impl_chain.l0 k s (a : Int) (b : Int) (i : Int)) (chainM s i n) := by
  intro n
  induction n with
  | zero =>
    intro i s hs hi
    refine Ev.step (f := fun _ => some s) (fun k => ?_) (Ev.now _)
    simp only [impl_chain.l0]
    rw [w64 (by omega) (by omega), if_neg (by omega)]
  | succ n ih =>
    intro i s hs hi
    refine Ev.step (f := fun k => (impl_digest.f k 99 (one (i : Int) ++ s)).bind fun t => impl_chain.l0 k t (a : Int) (b : Int) ((i + 1 : Nat) : Int)) (fun k => ?_) ?_
    · simp only [impl_chain.l0]
      rw [w64 (x := (a : Int) + b) (by omega) (by omega), if_pos (by omega), oneI]
      simp only [Option.bind_some]
      rw [if_pos (by rw [one_size]; omega), w64 (x := (i : Int) + 1) (by omega) (by omega)]
      rfl
    · exact ev_bind (digI 99 kc _ (by rw [app_size, one_size]; omega)) (ih (i + 1) _ (by rw [dig_size]; omega) (by omega))
theorem chainI (s : ByteArray) (a b : Nat) (ha : a + b ≤ 1000) (hs : s.size ≤ 1000000) : Ev (fun k => impl_chain.f k s (a : Int) (b : Int)) (chainM s a b) :=
  chainI0 a b ha b a s hs rfl
def nibs : List UInt8 → List Int
  | [] => []
  | c :: l => (c.toNat : Int) / 16 :: (c.toNat : Int) % 16 :: nibs l
def sm : List Int → Int
  | [] => 0
  | n :: l => (15 - n) + sm l
theorem nibs_length (l : List UInt8) : (nibs l).length = 2 * l.length := by
  induction l with
  | nil => rfl
  | cons c l ih => simp only [nibs, List.length_cons, ih]; omega
theorem nibs_in (l : List UInt8) : ∀ n ∈ nibs l, 0 ≤ n ∧ n ≤ 15 := by
  induction l with
  | nil => intro n h; cases h
  | cons c l ih =>
    have hc : c.toNat < 256 := UInt8.toNat_lt _
    intro n h
    simp only [nibs, List.mem_cons] at h
    rcases h with rfl | rfl | h
    · omega
    · omega
    · exact ih n h
theorem sm_nibs (l : List UInt8) : 0 ≤ sm (nibs l) ∧ sm (nibs l) ≤ 30 * l.length := by
  induction l with
  | nil => exact ⟨by decide, by decide⟩
  | cons c l ih =>
    have hc : c.toNat < 256 := UInt8.toNat_lt _
    simp only [nibs, sm, List.length_cons]
    omega
def checksM (S : Int) : List Int := [S / 256 % 16, S / 16 % 16, S % 16]
def digitsM (s : ByteArray) : List Int := nibs (dig 109 s).toList ++ checksM (sm (nibs (dig 109 s).toList))
theorem digitsM_length (s : ByteArray) : (digitsM s).length = 11 := by
  unfold digitsM
  rw [List.length_append, nibs_length, size_toList, dig_size]
  rfl
theorem digitsM_in (s : ByteArray) : ∀ n ∈ digitsM s, 0 ≤ n ∧ n ≤ 15 := by
  intro n h
  unfold digitsM at h
  rcases List.mem_append.mp h with h | h
  · exact nibs_in _ n h
  · unfold checksM at h
    simp only [List.mem_cons, List.not_mem_nil, or_false] at h
    rcases h with rfl | rfl | rfl <;> omega
theorem rd_at (l : List Int) (i : Nat) (h : i < l.length) : rd l (i : Int) = l[i] := by
  simp [rd, List.getD_eq_getElem?_getD, List.getElem?_eq_getElem h]
theorem rd_digits (s : ByteArray) (i : Nat) (h : i < 11) : 0 ≤ rd (digitsM s) (i : Int) ∧ rd (digitsM s) (i : Int) ≤ 15 := by
  have hl : i < (digitsM s).length := by rw [digitsM_length]; exact h
  rw [rd_at _ _ hl]
  exact digitsM_in s _ (List.getElem_mem hl)
theorem drop_cons {α : Type} (l : List α) (i : Nat) (h : i < l.length) : l.drop i = l[i] :: l.drop (i + 1) := List.drop_eq_getElem_cons h
theorem sumS (out : List Int) (hin : ∀ n ∈ out, 0 ≤ n ∧ n ≤ 15) (hl : out.length ≤ 100) : ∀ (d i : Nat) (S : Int), i + d = out.length → 0 ≤ S → S ≤ 15 * i → Ev (fun k => spec_l2Digits.l1 k out S out (out.length : Int) (i : Int)) (out ++ checksM (S + sm (out.drop i))) := by
  intro d
  induction d with
  | zero =>
    intro i S hi h0 h1
    refine Ev.step (f := fun _ => some (out ++ checksM S)) (fun k => ?_) ?_
    · simp only [spec_l2Digits.l1]
      rw [if_neg (by omega)]
      simp only [Option.bind_some]
      rw [if_pos (by simp only [List.length_cons, List.length_nil]; omega)]
      have hb : ∀ x : Int, 0 ≤ x → x < 4294967296 → Go.bits .and .i64 x 15 = x % 16 := fun x hx0 hx1 => bits_mask .i64 63 (by decide) (fun n hn0 hn1 => by rw [i64_w]; exact w64 (by omega) (by omega)) 4 (by decide) x hx0 (by omega)
      rw [hb _ (by omega) (by omega), hb _ (by omega) (by omega), hb _ (by omega) (by omega)]
      rfl
    · rw [List.drop_eq_nil_of_le (by omega)]
      simp only [sm, Int.add_zero]
      exact Ev.now _
  | succ d ih =>
    intro i S hi h0 h1
    have hlt : i < out.length := by omega
    have hr := rd_at out i hlt
    have hb := hin _ (List.getElem_mem hlt)
    refine Ev.step (f := fun k => spec_l2Digits.l1 k out (S + (15 - out[i])) out (out.length : Int) ((i + 1 : Nat) : Int)) (fun k => ?_) ?_
    · simp only [spec_l2Digits.l1]
      rw [if_pos (by omega), if_pos (by omega), if_pos (by omega), hr, w64 (x := 15 - out[i]) (by omega) (by omega), w64 (x := S + (15 - out[i])) (by omega) (by omega), w64 (x := (i : Int) + 1) (by omega) (by omega)]
      rfl
    · have := ih (i + 1) (S + (15 - out[i])) (by omega) (by omega) (by omega)
      rw [drop_cons out i hlt]
      simp only [sm]
      rw [← Int.add_assoc]
      exact this
theorem nibsS (t : ByteArray) (ht : t.size = 4) : ∀ (d i : Nat) (out : List Int), i + d = t.size → out = nibs (t.toList.take i) → Ev (fun k => spec_l2Digits.l0 k out t 0 (i : Int)) (nibs t.toList ++ checksM (sm (nibs t.toList))) := by
  have hlen : t.toList.length = 4 := by rw [size_toList]; exact ht
  intro d
  induction d with
  | zero =>
    intro i out hi ho
    have ho' : out = nibs t.toList := by rw [ho, List.take_of_length_le (by omega)]
    subst ho'
    refine Ev.step (f := fun k => spec_l2Digits.l1 k (nibs t.toList) 0 (nibs t.toList) ((nibs t.toList).length : Int) ((0 : Nat) : Int)) (fun k => ?_) ?_
    · simp only [spec_l2Digits.l0]
      rw [if_neg (by omega)]
      rfl
    · have := sumS (nibs t.toList) (nibs_in _) (by rw [nibs_length]; omega) (nibs t.toList).length 0 0 (by omega) (by omega) (by omega)
      simpa using this
  | succ d ih =>
    intro i out hi ho
    have hlt : i < t.size := by omega
    have hb := bt_get t i hlt
    have hlt' : i < t.toList.length := by omega
    have hg : t.toList.getD i 0 = t.toList[i] := by simp [List.getD_eq_getElem?_getD, List.getElem?_eq_getElem hlt']
    rw [hg] at hb
    have hc : (t.toList[i]).toNat < 256 := UInt8.toNat_lt _
    have hol : out.length = 2 * i := by rw [ho, nibs_length, List.length_take]; omega
    refine Ev.step (f := fun k => spec_l2Digits.l0 k (out ++ [((t.toList[i]).toNat : Int) / 16, ((t.toList[i]).toNat : Int) % 16]) t 0 ((i + 1 : Nat) : Int)) (fun k => ?_) ?_
    · simp only [spec_l2Digits.l0]
      rw [if_pos (by omega), if_pos (by omega), hb, u8_and15 (x := ((t.toList[i]).toNat : Int)) (by omega) (by omega), w64 (x := ((t.toList[i]).toNat : Int) / 16) (by omega) (by omega), w64 (x := ((t.toList[i]).toNat : Int) % 16) (by omega) (by omega), w64 (x := (i : Int) + 1) (by omega) (by omega)]
      simp only [Option.bind_some]
      rw [if_pos (by simp only [List.length_cons, List.length_nil]; omega)]
      rfl
    · refine ih (i + 1) _ (by omega) ?_
      rw [ho, List.take_succ_eq_append_getElem hlt']
      generalize List.take i t.toList = l
      induction l with
      | nil => rfl
      | cons c l ih2 => simp only [nibs, List.cons_append, ih2]
theorem kmm : Kd_ 109 := ⟨by decide, by decide⟩
theorem digitsS (s : ByteArray) (hs : s.size ≤ 1000000) : Ev (fun k => spec_l2Digits.f k s) (digitsM s) := by
  refine ev_bind (f := fun k t => spec_l2Digits.l0 k [] t 0 0) (digS 109 kmm s (by omega)) ?_
  exact nibsS (dig 109 s) (dig_size _ _) (dig 109 s).size 0 [] (by omega) rfl
theorem rd_bytes (t : ByteArray) (i : Nat) (h : i < t.toList.length) : rd (bytesOf t) (i : Int) = ((t.toList[i]).toNat : Int) := by
  rw [rd_bytesOf, bt_get t i (by rw [size_toList] at h; exact h)]
  simp [List.getD_eq_getElem?_getD, List.getElem?_eq_getElem h]
theorem bytesOf_len (t : ByteArray) : (bytesOf t).length = t.toList.length := by rw [bytesOf_length, size_toList]
theorem nibs_app (l : List UInt8) (c : UInt8) : nibs (l ++ [c]) = nibs l ++ [(c.toNat : Int) / 16, (c.toNat : Int) % 16] := by
  induction l with
  | nil => rfl
  | cons d l ih => simp only [nibs, List.cons_append, ih]
theorem sm_app (a b : List Int) : sm (a ++ b) = sm a + sm b := by
  induction a with
  | nil => simp [sm]
  | cons n a ih => simp only [sm, List.cons_append, ih]; omega
theorem nibsI (t : ByteArray) (ht : t.size = 4) : ∀ (d i : Nat) (out : List Int) (S : Int), i + d = t.toList.length → out = nibs (t.toList.take i) → S = sm out → Ev (fun k => impl_digits.l0 k out S (bytesOf t) ((bytesOf t).length : Int) (i : Int)) (nibs t.toList ++ checksM (sm (nibs t.toList))) := by
  have hlen : t.toList.length = 4 := by rw [size_toList]; exact ht
  intro d
  induction d with
  | zero =>
    intro i out S hi ho hS
    have ho' : out = nibs t.toList := by rw [ho, List.take_of_length_le (by omega)]
    subst ho'
    have hb := sm_nibs t.toList
    rw [hlen] at hb
    refine Ev.step (f := fun k => some (nibs t.toList ++ checksM (sm (nibs t.toList)))) (fun k => ?_) (Ev.now _)
    simp only [impl_digits.l0]
    rw [if_neg (by rw [bytesOf_len]; omega)]
    simp only [Option.bind_some]
    rw [if_pos (by rw [nibs_length]; simp only [List.length_cons, List.length_nil]; omega)]
    rw [hS, Int.tdiv_eq_ediv_of_nonneg hb.1, Int.tdiv_eq_ediv_of_nonneg hb.1, w64 (x := sm (nibs t.toList) / 256) (by omega) (by omega), w64 (x := sm (nibs t.toList) / 16) (by omega) (by omega), Int.tmod_eq_emod_of_nonneg hb.1, Int.tmod_eq_emod_of_nonneg (by omega)]
    unfold checksM
    rw [show sm (nibs t.toList) / 256 % 16 = sm (nibs t.toList) / 256 from by omega]
  | succ d ih =>
    intro i out S hi ho hS
    have hlt' : i < t.toList.length := by omega
    have hb := rd_bytes t i hlt'
    have hc : (t.toList[i]).toNat < 256 := UInt8.toNat_lt _
    have hol : out.length = 2 * i := by rw [ho, nibs_length, List.length_take]; omega
    have hSb : 0 ≤ S ∧ S ≤ 30 * i := by
      have := sm_nibs (t.toList.take i)
      rw [← ho, ← hS, List.length_take] at this
      omega
    refine Ev.step (f := fun k => impl_digits.l0 k (out ++ [((t.toList[i]).toNat : Int) / 16, ((t.toList[i]).toNat : Int) % 16]) (S + (30 - ((t.toList[i]).toNat : Int) / 16 - ((t.toList[i]).toNat : Int) % 16)) (bytesOf t) ((bytesOf t).length : Int) ((i + 1 : Nat) : Int)) (fun k => ?_) ?_
    · simp only [impl_digits.l0]
      have hbl := bytesOf_len t
      rw [if_pos (by omega), if_pos (by omega), if_pos (by omega), hb, Int.tdiv_eq_ediv_of_nonneg (by omega), Int.tmod_eq_emod_of_nonneg (by omega), w64 (x := ((t.toList[i]).toNat : Int) % 16) (by omega) (by omega), w64 (x := (i : Int) + 1) (by omega) (by omega)]
      rw [show ((t.toList[i]).toNat : Int) / 16 % 256 = ((t.toList[i]).toNat : Int) / 16 from by omega]
      rw [w64 (x := 30 - ((t.toList[i]).toNat : Int) / 16 - ((t.toList[i]).toNat : Int) % 16) (by omega) (by omega), w64 (x := S + (30 - ((t.toList[i]).toNat : Int) / 16 - ((t.toList[i]).toNat : Int) % 16)) (by omega) (by omega)]
      simp only [Option.bind_some]
      rw [if_pos (by simp only [List.length_cons, List.length_nil]; omega)]
      rfl
    · refine ih (i + 1) _ _ (by omega) ?_ ?_
      · rw [ho, List.take_succ_eq_append_getElem hlt', nibs_app]
      · rw [hS, sm_app]; simp only [sm]; omega
theorem digitsI (s : ByteArray) (hs : s.size ≤ 1000000) : Ev (fun k => impl_digits.f k s) (digitsM s) := by
  refine ev_bind (f := fun k t178 => if t178.size ≤ 9223372036854775807 then ((some (bytesOf t178 : List Int)).bind fun y179 => (impl_digits.l0 k ([] : List Int) 0 y179 (y179.length : Int) 0)) else (none)) (digI 109 kmm s (by omega)) ?_
  refine ev_pos (by rw [dig_size]; omega) ?_
  exact nibsI (dig 109 s) (dig_size _ _) (dig 109 s).toList.length 0 [] 0 (by omega) rfl rfl
end Go.Proofs.Ytfajabboibcgpaa.PK
end
section
namespace Go.Proofs.Ytfajabboibcgpaa.PL
open Go.RowKit Go.Proofs.YtfajabboibcgpaaW.PrintWords Go.Proofs.YtfajabboibcgpaaW.PrintLast Go.Proofs.YtfajabboibcgpaaW.PrintMore Go.Proofs.Ytfajabboibcgpaa.PB Go.Proofs.Ytfajabboibcgpaa.PA
set_option linter.unusedVariables false
theorem rdOf_at {α : Type} (d : α) (l : List α) (i : Nat) (h : i < l.length) : rdOf d l (i : Int) = l[i] := by
  simp [rdOf, List.getD_eq_getElem?_getD, List.getElem?_eq_getElem h]
def filled {α β : Type} (f : α → β) (z : β) (l : List α) (i : Nat) : List β := (l.take i).map f ++ List.replicate (l.length - i) z
theorem filled_length {α β : Type} (f : α → β) (z : β) (l : List α) (i : Nat) (h : i ≤ l.length) : (filled f z l i).length = l.length := by
  simp [filled, Nat.min_eq_left h]; omega
theorem filled_zero {α β : Type} (f : α → β) (z : β) (l : List α) : filled f z l 0 = List.replicate l.length z := by simp [filled]
theorem filled_all {α β : Type} (f : α → β) (z : β) (l : List α) : filled f z l l.length = l.map f := by simp [filled]
theorem filled_set {α β : Type} (f : α → β) (z : β) (l : List α) (i : Nat) (h : i < l.length) : (filled f z l i).set i (f l[i]) = filled f z l (i + 1) := by
  unfold filled
  rw [List.take_succ_eq_append_getElem h, List.map_append, List.map_cons, List.map_nil]
  have hl : ((l.take i).map f).length = i := by simp [Nat.min_eq_left (Nat.le_of_lt h)]
  obtain ⟨m, hm⟩ : ∃ m, l.length - i = m + 1 := ⟨l.length - i - 1, by omega⟩
  rw [hm, List.replicate_succ, List.set_append_right _ _ (by omega), hl, Nat.sub_self, List.set_cons_zero, show l.length - (i + 1) = m by omega]
  simp
theorem toS (l : List ByteArray) (hl : l.length ≤ 2000000) : Ev (fun k => laws_toStringS.f k l) l := by
  have key : ∀ (d i : Nat), i + d = l.length → Ev (fun k => laws_toStringS.l0 k l (filled (fun x => x) ⟨#[]⟩ l i) (i : Int)) l := by
    intro d
    induction d with
    | zero =>
      intro i hi
      have hi' : i = l.length := by omega
      subst hi'
      refine Ev.step (f := fun _ => some l) (fun k => ?_) (Ev.now _)
      simp only [laws_toStringS.l0]
      rw [if_neg (by omega), filled_all]
      simp
    | succ d ih =>
      intro i hi
      have hlt : i < l.length := by omega
      refine Ev.step (f := fun k => laws_toStringS.l0 k l (filled (fun x => x) ⟨#[]⟩ l (i + 1)) ((i + 1 : Nat) : Int)) (fun k => ?_) (ih (i + 1) (by omega))
      simp only [laws_toStringS.l0]
      rw [if_pos (by omega), if_pos (by omega), if_pos (by rw [filled_length _ _ _ _ (by omega)]; omega), rdOf_at _ _ _ hlt, w64 (x := (i : Int) + 1) (by omega) (by omega)]
      rw [show ((i : Int)).toNat = i from by omega, filled_set (fun x => x) _ l i hlt]
      rfl
  refine Ev.congr (f := fun k => laws_toStringS.l0 k l (filled (fun x => x) ⟨#[]⟩ l 0) ((0 : Nat) : Int)) (fun k => ?_) (key l.length 0 (by omega))
  simp only [laws_toStringS.f]
  rw [if_pos (by omega), if_pos (by omega), filled_zero]
  rfl
theorem eqS_yes (l : List ByteArray) (hl : l.length ≤ 2000000) : Ev (fun k => laws_eqStringS.f k l l) true := by
  have key : ∀ (d i : Nat), i + d = l.length → Ev (fun k => laws_eqStringS.l0 k l l (i : Int)) true := by
    intro d
    induction d with
    | zero =>
      intro i hi
      refine Ev.step (f := fun _ => some true) (fun k => ?_) (Ev.now _)
      simp only [laws_eqStringS.l0]
      rw [if_neg (by omega)]
    | succ d ih =>
      intro i hi
      refine Ev.step (f := fun k => laws_eqStringS.l0 k l l ((i + 1 : Nat) : Int)) (fun k => ?_) (ih (i + 1) (by omega))
      simp only [laws_eqStringS.l0]
      rw [if_pos (by omega), if_pos (by omega), if_pos (by omega), if_pos trivial, w64 (x := (i : Int) + 1) (by omega) (by omega)]
      rfl
  refine Ev.congr (f := fun k => laws_eqStringS.l0 k l l ((0 : Nat) : Int)) (fun k => ?_) (key l.length 0 (by omega))
  simp only [laws_eqStringS.f]
  rw [if_pos trivial]
  rfl
def szL : List ByteArray → Nat
  | [] => 0
  | s :: l => s.size + szL l
def total (l : List ByteArray) : Nat := l.length + szL l
def Fit (l : List ByteArray) : Prop := l.length ≤ 9223372036854775807 ∧ ∀ s ∈ l, s.size ≤ 9223372036854775807
theorem szS_loop (l : List ByteArray) (hf : Fit l) : ∀ (d i : Nat) (R : Int), i + d = l.length → 0 ≤ R → R ≤ 1000000000000 → l.length ≤ 1000000000000 →
    Ev (fun k => laws_szStringS.l0 k l R (i : Int)) (if (szL (l.drop i) : Int) ≤ R then R - szL (l.drop i) else -1) := by
  intro d
  induction d with
  | zero =>
    intro i R hi h0 h1 h2
    rw [List.drop_eq_nil_of_le (by omega)]
    refine Ev.step (f := fun _ => some R) (fun k => ?_) ?_
    · simp only [laws_szStringS.l0]
      rw [if_neg (by omega)]
    · rw [show szL [] = 0 from rfl, if_pos (by omega)]
      exact ev_eq (Ev.now R) (by omega)
  | succ d ih =>
    intro i R hi h0 h1 h2
    have hlt : i < l.length := by omega
    have hs := hf.2 _ (List.getElem_mem hlt)
    rw [List.drop_eq_getElem_cons hlt, show szL (l[i] :: l.drop (i + 1)) = l[i].size + szL (l.drop (i + 1)) from rfl]
    by_cases hc : (l[i].size : Int) ≤ R
    · refine Ev.step (f := fun k => laws_szStringS.l0 k l (R - l[i].size) ((i + 1 : Nat) : Int)) (fun k => ?_) ?_
      · simp only [laws_szStringS.l0]
        rw [if_pos (by omega), if_pos (by omega), rdOf_at _ _ _ hlt, w64 (x := R - (l[i].size : Int)) (by omega) (by omega), if_neg (by omega), w64 (x := (i : Int) + 1) (by omega) (by omega)]
        rfl
      · refine ev_eq (ih (i + 1) (R - l[i].size) (by omega) (by omega) (by omega) h2) ?_
        by_cases hd : (szL (l.drop (i + 1)) : Int) ≤ R - l[i].size
        · rw [if_pos hd, if_pos (by omega)]; omega
        · rw [if_neg hd, if_neg (by omega)]
    · refine Ev.step (f := fun _ => some (-1)) (fun k => ?_) ?_
      · simp only [laws_szStringS.l0]
        rw [if_pos (by omega), if_pos (by omega), rdOf_at _ _ _ hlt, w64 (x := R - (l[i].size : Int)) (by omega) (by omega), if_pos (by omega)]
      · rw [if_neg (by omega)]
        exact Ev.now _
theorem szS (l : List ByteArray) (hf : Fit l) (R : Int) (h0 : 0 ≤ R) (h1 : R ≤ 1000000000) : Ev (fun k => laws_szStringS.f k l R) (if (total l : Int) ≤ R then R - total l else -1) := by
  have hl := hf.1
  by_cases hc : (l.length : Int) ≤ R
  · refine Ev.congr (f := fun k => laws_szStringS.l0 k l (R - l.length) ((0 : Nat) : Int)) (fun k => ?_) ?_
    · simp only [laws_szStringS.f]
      rw [w64 (x := R - (l.length : Int)) (by omega) (by omega), if_neg (by omega)]
      rfl
    · refine ev_eq (szS_loop l hf l.length 0 (R - l.length) (by omega) (by omega) (by omega) (by omega)) ?_
      rw [List.drop_zero]
      unfold total
      by_cases hd : (szL l : Int) ≤ R - l.length
      · rw [if_pos hd, if_pos (by omega)]; omega
      · rw [if_neg hd, if_neg (by omega)]
  · refine Ev.congr (f := fun _ => some (-1)) (fun k => ?_) ?_
    · simp only [laws_szStringS.f]
      rw [w64 (x := R - (l.length : Int)) (by omega) (by omega), if_pos (by omega)]
    · unfold total
      rw [if_neg (by omega)]
      exact Ev.now _
end Go.Proofs.Ytfajabboibcgpaa.PL
end
section
namespace Go.Proofs.Ytfajabboibcgpaa.PS
open Go.RowKit Go.Proofs.YtfajabboibcgpaaW.PrintWords Go.Proofs.YtfajabboibcgpaaW.PrintLast Go.Proofs.YtfajabboibcgpaaW.PrintMore Go.Proofs.Ytfajabboibcgpaa.PB Go.Proofs.Ytfajabboibcgpaa.PD Go.Proofs.Ytfajabboibcgpaa.PK Go.Proofs.Ytfajabboibcgpaa.PL Go.Proofs.Ytfajabboibcgpaa.PA
set_option linter.unusedVariables false
theorem chainS' (s : ByteArray) (a b : Int) (h0 : 0 ≤ a) (h1 : 0 ≤ b) (h2 : a + b ≤ 1000) (hs : s.size ≤ 1000000) : Ev (fun k => spec_l2Chain.f k s a b) (chainM s a.toNat b.toNat) := by
  obtain ⟨m, rfl⟩ := Int.eq_ofNat_of_zero_le h0
  obtain ⟨n, rfl⟩ := Int.eq_ofNat_of_zero_le h1
  exact chainS s m n (by omega) hs
theorem chainI' (s : ByteArray) (a b : Int) (h0 : 0 ≤ a) (h1 : 0 ≤ b) (h2 : a + b ≤ 1000) (hs : s.size ≤ 1000000) : Ev (fun k => impl_chain.f k s a b) (chainM s a.toNat b.toNat) := by
  obtain ⟨m, rfl⟩ := Int.eq_ofNat_of_zero_le h0
  obtain ⟨n, rfl⟩ := Int.eq_ofNat_of_zero_le h1
  exact chainI s m n (by omega) hs
theorem kp : Kd_ 112 := ⟨by decide, by decide⟩
def fromAt (text : ByteArray) (l : List ByteArray) (i : Nat) : ByteArray := chainM (l.getD i ⟨#[]⟩) (rd (digitsM text) (i : Int)).toNat (15 - rd (digitsM text) (i : Int)).toNat
def joined : List ByteArray → ByteArray → ByteArray
  | [], s => s
  | t :: l, s => joined l (s ++ t)
def fromM (text : ByteArray) (l : List ByteArray) : ByteArray := dig 112 (joined ((List.range 11).map (fromAt text l)) ⟨#[]⟩)
theorem joined_snoc (l : List ByteArray) (t s : ByteArray) : joined (l ++ [t]) s = joined l s ++ t := by
  induction l generalizing s with
  | nil => rfl
  | cons a l ih => exact ih (s ++ a)
def Good11 (l : List ByteArray) : Prop := l.length = 11 ∧ ∀ s ∈ l, s.size = 4
theorem getD_good {l : List ByteArray} (h : Good11 l) (i : Nat) (hi : i < 11) : (l.getD i ⟨#[]⟩).size = 4 := by
  have hl : i < l.length := by rw [h.1]; exact hi
  simp only [List.getD_eq_getElem?_getD, List.getElem?_eq_getElem hl, Option.getD_some]
  exact h.2 _ (List.getElem_mem hl)
theorem joined_size (text : ByteArray) (l : List ByteArray) (h : Good11 l) : ∀ i, i ≤ 11 → (joined ((List.range i).map (fromAt text l)) ⟨#[]⟩).size = 4 * i := by
  intro i
  induction i with
  | zero => intro _; rfl
  | succ i ih =>
    intro hi
    rw [List.range_succ, List.map_append, List.map_cons, List.map_nil, joined_snoc, app_size, ih (by omega)]
    unfold fromAt
    rw [chainM_size _ (getD_good h i (by omega))]
    omega
theorem rdOf_getD (l : List ByteArray) (i : Nat) : rdOf ByteArray.empty l (i : Int) = l.getD i ⟨#[]⟩ := by
  simp only [rdOf, Int.toNat_natCast]; rfl
theorem fromS (text : ByteArray) (l : List ByteArray) (ht : text.size ≤ 1000000) (h : Good11 l) : Ev (fun k => spec_l2From.f k text l) (fromM text l) := by
  have hlen := digitsM_length text
  have key : ∀ (d i : Nat), i + d = 11 → Ev (fun k => spec_l2From.l0 k l (joined ((List.range i).map (fromAt text l)) ⟨#[]⟩) (digitsM text) ((digitsM text).length : Int) (i : Int)) (fromM text l) := by
    intro d
    induction d with
    | zero =>
      intro i hi
      have hj := joined_size text l h 11 (by omega)
      refine Ev.step (f := fun k => (spec_l1Digest.f k 112 (joined ((List.range 11).map (fromAt text l)) ⟨#[]⟩)).bind fun t => some t) (fun k => ?_) (ev_bind (digS 112 kp _ (by omega)) (Ev.now _))
      simp only [spec_l2From.l0]
      rw [if_neg (by omega), show i = 11 by omega]
    | succ d ih =>
      intro i hi
      have hr := rd_digits text i (by omega)
      have hj := joined_size text l h i (by omega)
      have hl := h.1
      refine Ev.step (f := fun k => (spec_l2Chain.f k (l.getD i ⟨#[]⟩) (rd (digitsM text) (i : Int)) (15 - rd (digitsM text) (i : Int))).bind fun t => if (joined ((List.range i).map (fromAt text l)) ⟨#[]⟩).size + t.size ≤ 9223372036854775807 then spec_l2From.l0 k l (joined ((List.range i).map (fromAt text l)) ⟨#[]⟩ ++ t) (digitsM text) ((digitsM text).length : Int) ((i + 1 : Nat) : Int) else none) (fun k => ?_) ?_
      · simp only [spec_l2From.l0]
        rw [if_pos (by omega), if_pos (by omega), if_pos (by omega), if_pos (by omega), rdOf_getD, w64 (x := 15 - rd (digitsM text) (i : Int)) (by omega) (by omega), w64 (x := (i : Int) + 1) (by omega) (by omega)]
        rfl
      · refine ev_bind (chainS' _ _ _ hr.1 (by omega) (by omega) (by rw [getD_good h i (by omega)]; omega)) (ev_pos (by rw [chainM_size _ (getD_good h i (by omega))]; omega) ?_)
        have e : joined ((List.range i).map (fromAt text l)) ⟨#[]⟩ ++ chainM (l.getD i ⟨#[]⟩) (rd (digitsM text) (i : Int)).toNat (15 - rd (digitsM text) (i : Int)).toNat = joined ((List.range (i + 1)).map (fromAt text l)) ⟨#[]⟩ := by
          rw [List.range_succ, List.map_append, List.map_cons, List.map_nil, joined_snoc]; rfl
        rw [e]
        exact ih (i + 1) (by omega)
  exact ev_bind (digitsS text ht) (key 11 0 (by omega))
theorem fromI (text : ByteArray) (l : List ByteArray) (ht : text.size ≤ 1000000) (h : Good11 l) : Ev (fun k => impl_publicFrom.f k text l) (fromM text l) := by
  have hlen := digitsM_length text
  have key : ∀ (d i : Nat), i + d = 11 → Ev (fun k => impl_publicFrom.l0 k l (joined ((List.range i).map (fromAt text l)) ⟨#[]⟩) (digitsM text) ((digitsM text).length : Int) (i : Int)) (fromM text l) := by
    intro d
    induction d with
    | zero =>
      intro i hi
      have hj := joined_size text l h 11 (by omega)
      refine Ev.step (f := fun k => (impl_digest.f k 112 (joined ((List.range 11).map (fromAt text l)) ⟨#[]⟩)).bind fun t => some t) (fun k => ?_) (ev_bind (digI 112 kp _ (by omega)) (Ev.now _))
      simp only [impl_publicFrom.l0]
      rw [if_neg (by omega), show i = 11 by omega]
    | succ d ih =>
      intro i hi
      have hr := rd_digits text i (by omega)
      have hj := joined_size text l h i (by omega)
      have hl := h.1
      refine Ev.step (f := fun k => (impl_chain.f k (l.getD i ⟨#[]⟩) (rd (digitsM text) (i : Int)) (15 - rd (digitsM text) (i : Int))).bind fun t => if (joined ((List.range i).map (fromAt text l)) ⟨#[]⟩).size + t.size ≤ 9223372036854775807 then impl_publicFrom.l0 k l (joined ((List.range i).map (fromAt text l)) ⟨#[]⟩ ++ t) (digitsM text) ((digitsM text).length : Int) ((i + 1 : Nat) : Int) else none) (fun k => ?_) ?_
      · simp only [impl_publicFrom.l0]
        rw [if_pos (by omega), if_pos (by omega), if_pos (by omega), if_pos (by omega), rdOf_getD, w64 (x := 15 - rd (digitsM text) (i : Int)) (by omega) (by omega), w64 (x := (i : Int) + 1) (by omega) (by omega)]
        rfl
      · refine ev_bind (chainI' _ _ _ hr.1 (by omega) (by omega) (by rw [getD_good h i (by omega)]; omega)) (ev_pos (by rw [chainM_size _ (getD_good h i (by omega))]; omega) ?_)
        have e : joined ((List.range i).map (fromAt text l)) ⟨#[]⟩ ++ chainM (l.getD i ⟨#[]⟩) (rd (digitsM text) (i : Int)).toNat (15 - rd (digitsM text) (i : Int)).toNat = joined ((List.range (i + 1)).map (fromAt text l)) ⟨#[]⟩ := by
          rw [List.range_succ, List.map_append, List.map_cons, List.map_nil, joined_snoc]; rfl
        rw [e]
        exact ih (i + 1) (by omega)
  exact ev_bind (digitsI text ht) (key 11 0 (by omega))
end Go.Proofs.Ytfajabboibcgpaa.PS
end
section
namespace Go.Proofs.Ytfajabboibcgpaa.PT
open Go.RowKit Go.Proofs.YtfajabboibcgpaaW.PrintWords Go.Proofs.YtfajabboibcgpaaW.PrintLast Go.Proofs.YtfajabboibcgpaaW.PrintMore Go.Proofs.Ytfajabboibcgpaa.PB Go.Proofs.Ytfajabboibcgpaa.PD Go.Proofs.Ytfajabboibcgpaa.PK Go.Proofs.Ytfajabboibcgpaa.PL Go.Proofs.Ytfajabboibcgpaa.PS Go.Proofs.Ytfajabboibcgpaa.PA
set_option linter.unusedVariables false
theorem inS (a b c : Int) : spec_l1In.f a b c = some (decide (b ≤ a ∧ a ≤ c)) := by
  unfold spec_l1In.f
  by_cases h : a ≥ b
  · rw [if_pos h]; simp [show b ≤ a from h]
  · rw [if_neg h]; simp [show ¬ b ≤ a from h]
theorem inI (a b c : Int) : impl_within.f a b c = some (decide (b ≤ a ∧ a ≤ c)) := by
  unfold impl_within.f
  by_cases h : a ≥ b
  · rw [if_pos h]; simp [show b ≤ a from h]
  · rw [if_neg h]; simp [show ¬ b ≤ a from h]
theorem longS (a : ByteArray) : spec_l2Long.f a = some (decide ((a.size : Int) ≤ 200)) := rfl
end Go.Proofs.Ytfajabboibcgpaa.PT
end
section
namespace Go.Proofs.Ytfajabboibcgpaa.PU
open Go.RowKit Go.Proofs.YtfajabboibcgpaaW.PrintWords Go.Proofs.YtfajabboibcgpaaW.PrintLast Go.Proofs.YtfajabboibcgpaaW.PrintMore Go.Proofs.Ytfajabboibcgpaa.PB Go.Proofs.Ytfajabboibcgpaa.PD Go.Proofs.Ytfajabboibcgpaa.PK Go.Proofs.Ytfajabboibcgpaa.PL Go.Proofs.Ytfajabboibcgpaa.PS Go.Proofs.Ytfajabboibcgpaa.PT Go.Proofs.Ytfajabboibcgpaa.PA
set_option linter.unusedVariables false
theorem idx_any {α : Type} (l : List α) (rf : List α → Int → α) (hrf : ∀ i (h : i < l.length), rf l (i : Int) = l[i]) (L0 : Nat → List α → Int → Int → Option Int) (cl : Nat → α → Option Bool) (p : α → Bool)
    (hstep : ∀ k n i, L0 (k + 1) l n i = if i < n then (if 0 ≤ i then (if i < (l.length : Int) then ((cl k (rf l i)).bind fun t => if t = true then some i else L0 k l n (wrap64 (i + 1))) else none) else none) else some (-1))
    (hp : ∀ x ∈ l, Ev (fun k => cl k x) (p x)) (hl : l.length ≤ 4000000000000000000) : ∃ r, Ev (fun k => L0 k l (l.length : Int) 0) r ∧ decide (r ≥ 0) = l.any p := by
  have key : ∀ (d i : Nat), i + d = l.length → ∃ r, Ev (fun k => L0 k l (l.length : Int) (i : Int)) r ∧ decide (r ≥ 0) = (l.drop i).any p := by
    intro d
    induction d with
    | zero =>
      intro i hi
      refine ⟨-1, Ev.step (f := fun _ => some (-1)) (fun k => ?_) (Ev.now _), ?_⟩
      · rw [hstep, if_neg (by omega)]
      · rw [List.drop_eq_nil_of_le (by omega)]; rfl
    | succ d ih =>
      intro i hi
      have hlt : i < l.length := by omega
      have hpx := hp _ (List.getElem_mem hlt)
      rw [List.drop_eq_getElem_cons hlt, List.any_cons]
      have st : ∀ k, L0 (k + 1) l (l.length : Int) (i : Int) = (cl k l[i]).bind fun t => if t = true then some (i : Int) else L0 k l (l.length : Int) ((i + 1 : Nat) : Int) := by
        intro k
        rw [hstep, if_pos (by omega), if_pos (by omega), if_pos (by omega), hrf i hlt, w64 (x := (i : Int) + 1) (by omega) (by omega)]
        rfl
      cases hb : p l[i] with
      | true =>
        rw [hb] at hpx
        refine ⟨(i : Int), Ev.step (f := fun k => (cl k l[i]).bind fun t => if t = true then some (i : Int) else L0 k l (l.length : Int) ((i + 1 : Nat) : Int)) st (ev_bind hpx (ev_pos rfl (Ev.now _))), ?_⟩
        simp only [Bool.true_or]
        exact decide_eq_true (by omega)
      | false =>
        rw [hb] at hpx
        obtain ⟨r, hr, e⟩ := ih (i + 1) (by omega)
        refine ⟨r, Ev.step (f := fun k => (cl k l[i]).bind fun t => if t = true then some (i : Int) else L0 k l (l.length : Int) ((i + 1 : Nat) : Int)) st (ev_bind hpx (ev_neg (by simp) hr)), ?_⟩
        rw [Bool.false_or]; exact e
  obtain ⟨r, hr, e⟩ := key l.length 0 (by omega)
  exact ⟨r, hr, by rw [e, List.drop_zero]⟩
def all4 (l : List ByteArray) : Bool := l.all fun s => decide (s.size = 4)
theorem all4_iff (l : List ByteArray) : all4 l = true ↔ ∀ s ∈ l, s.size = 4 := by simp [all4]
theorem isDigI (s : ByteArray) : impl_isDigest.f s = some (decide (s.size = 4)) := by
  unfold impl_isDigest.f
  refine congrArg some ?_
  by_cases h : s.size = 4
  · rw [decide_eq_true h, h]; rfl
  · rw [decide_eq_false h]; exact beq_eq_false_iff_ne.mpr (by omega)
theorem any_not_all4 (l : List ByteArray) : (l.any fun s => !decide (s.size = 4)) = !all4 l := by
  induction l with
  | nil => rfl
  | cons a l ih => simp only [List.any_cons, all4, List.all_cons, Bool.not_and]; rw [ih]; rfl
theorem areDigI (l : List ByteArray) (m : Int) (hl : l.length ≤ 4000000000000000000) : Ev (fun k => impl_areDigests.f k l m) (decide ((l.length : Int) = m) && all4 l) := by
  unfold impl_areDigests.f
  by_cases h : (l.length : Int) = m
  · refine ev_pos h ?_
    obtain ⟨r, hr, e⟩ := idx_any l (fun l i => rdOf ByteArray.empty l i) (fun i h => rdOf_at _ l i h) slices_IndexFunc_impl_areDigests_1.l0 (fun _ s => impl_areDigests_1.f s) (fun s => !decide (s.size = 4)) (fun k n i => rfl) (fun x _ => ev_of_eq (by unfold impl_areDigests_1.f; rw [isDigI]; rfl)) hl
    have hc : Ev (fun k => slices_ContainsFunc_impl_areDigests_1.f k l) (!all4 l) := by
      rw [← any_not_all4, ← e]
      exact ev_bind (f := fun _ t => some (decide (t ≥ 0))) hr (Ev.now _)
    refine ev_eq (ev_bind (f := fun _ t => some (!t)) hc (Ev.now _)) ?_
    rw [decide_eq_true h, Bool.true_and, Bool.not_not]
  · refine ev_neg h ?_
    rw [decide_eq_false h]
    exact Ev.now _
theorem good11S (l : List ByteArray) (hl : l.length ≤ 4000000000000000000) : Ev (fun k => spec_l2Good.f k l) (decide ((l.length : Int) = 11) && all4 l) := by
  have key : ∀ (d i : Nat), i + d = l.length → Ev (fun k => spec_l2Good.l0 k l l (l.length : Int) (i : Int)) (decide ((l.length : Int) = 11) && all4 (l.drop i)) := by
    intro d
    induction d with
    | zero =>
      intro i hi
      refine Ev.step (f := fun _ => some ((l.length : Int) == 11)) (fun k => ?_) ?_
      · simp only [spec_l2Good.l0]; rw [if_neg (by omega)]
      · rw [List.drop_eq_nil_of_le (by omega)]
        refine ev_eq (Ev.now _) ?_
        simp only [all4, List.all_nil, Bool.and_true]
        rfl
    | succ d ih =>
      intro i hi
      have hlt : i < l.length := by omega
      rw [List.drop_eq_getElem_cons hlt]
      by_cases hb : l[i].size = 4
      · refine Ev.step (f := fun k => spec_l2Good.l0 k l l (l.length : Int) ((i + 1 : Nat) : Int)) (fun k => ?_) ?_
        · simp only [spec_l2Good.l0]
          rw [if_pos (by omega), if_pos (by omega), if_pos (by omega), rdOf_at _ _ _ hlt, if_pos (by omega), w64 (x := (i : Int) + 1) (by omega) (by omega)]
          rfl
        · refine ev_eq (ih (i + 1) (by omega)) ?_
          simp only [all4, List.all_cons, decide_eq_true hb, Bool.true_and]
      · refine Ev.step (f := fun _ => some false) (fun k => ?_) ?_
        · simp only [spec_l2Good.l0]
          rw [if_pos (by omega), if_pos (by omega), if_pos (by omega), rdOf_at _ _ _ hlt, if_neg (by omega)]
        · refine ev_eq (Ev.now _) ?_
          simp only [all4, List.all_cons, decide_eq_false hb, Bool.false_and, Bool.and_false]
  exact key l.length 0 (by omega)
theorem good_of (l : List ByteArray) (h : (decide ((l.length : Int) = 11) && all4 l) = true) : Good11 l := by
  simp only [Bool.and_eq_true, decide_eq_true_eq] at h
  exact ⟨by omega, (all4_iff l).1 h.2⟩
def okSign (text : ByteArray) (l : List ByteArray) : Bool := decide ((text.size : Int) ≤ 200) && (decide ((l.length : Int) = 11) && all4 l)
theorem isSignI (text : ByteArray) (l : List ByteArray) (hl : l.length ≤ 4000000000000000000) : Ev (fun k => impl_isSign.f k text l) (okSign text l) := by
  unfold impl_isSign.f okSign
  by_cases h : (text.size : Int) ≤ 200
  · refine ev_pos h ?_
    rw [decide_eq_true h, Bool.true_and]
    exact ev_bind (f := fun _ t => some t) (areDigI l 11 hl) (Ev.now _)
  · refine ev_neg h ?_
    rw [decide_eq_false h]
    exact Ev.now _
theorem okSign_good {text : ByteArray} {l : List ByteArray} (h : okSign text l = true) : text.size ≤ 200 ∧ Good11 l := by
  unfold okSign at h
  rw [Bool.and_eq_true] at h
  have h1 := h.1
  rw [decide_eq_true_eq] at h1
  exact ⟨by omega, good_of l h.2⟩
end Go.Proofs.Ytfajabboibcgpaa.PU
end
section
namespace Go.Proofs.Ytfajabboibcgpaa.PG
open Go.RowKit Go.Proofs.YtfajabboibcgpaaW.PrintWords Go.Proofs.YtfajabboibcgpaaW.PrintLast Go.Proofs.YtfajabboibcgpaaW.PrintMore Go.Proofs.Ytfajabboibcgpaa.PB Go.Proofs.Ytfajabboibcgpaa.PL
set_option linter.unusedVariables false
theorem loop_up {β : Type} {r : β} (n : Nat) (S : Nat → Nat → Option β) (hend : Ev (S n) r) (hround : ∀ i, i < n → Ev (S (i + 1)) r → Ev (S i) r) : Ev (S 0) r := by
  have key : ∀ d i, i + d = n → Ev (S i) r := by
    intro d
    induction d with
    | zero => intro i hi; rw [show i = n by omega]; exact hend
    | succ d ih => intro i hi; exact hround i (by omega) (ih (i + 1) (by omega))
  exact key n 0 (by omega)
def left (R : Int) (w : Nat) : Int := if (w : Int) ≤ R then R - w else -1
theorem left_yes {R : Int} {w : Nat} (h : (w : Int) ≤ R) : left R w = R - w := if_pos h
theorem left_no {R : Int} {w : Nat} (h : ¬ (w : Int) ≤ R) : left R w = -1 := if_neg h
end Go.Proofs.Ytfajabboibcgpaa.PG
end
section
namespace Go.Proofs.Ytfajabboibcgpaa.PQ
open Go.RowKit Go.Proofs.YtfajabboibcgpaaW.PrintWords Go.Proofs.YtfajabboibcgpaaW.PrintLast Go.Proofs.YtfajabboibcgpaaW.PrintMore Go.Proofs.Ytfajabboibcgpaa.PB Go.Proofs.Ytfajabboibcgpaa.PD Go.Proofs.Ytfajabboibcgpaa.PK Go.Proofs.Ytfajabboibcgpaa.PL Go.Proofs.Ytfajabboibcgpaa.PS Go.Proofs.Ytfajabboibcgpaa.PT Go.Proofs.Ytfajabboibcgpaa.PU Go.Proofs.Ytfajabboibcgpaa.PG Go.Proofs.Ytfajabboibcgpaa.PA
set_option linter.unusedVariables false
end Go.Proofs.Ytfajabboibcgpaa.PQ
end
section
namespace Go.Proofs.Ytfajabboibcgpaa.PV
open Go.RowKit Go.Proofs.YtfajabboibcgpaaW.PrintWords Go.Proofs.YtfajabboibcgpaaW.PrintLast Go.Proofs.YtfajabboibcgpaaW.PrintMore Go.Proofs.Ytfajabboibcgpaa.PB Go.Proofs.Ytfajabboibcgpaa.PD Go.Proofs.Ytfajabboibcgpaa.PK Go.Proofs.Ytfajabboibcgpaa.PL Go.Proofs.Ytfajabboibcgpaa.PS Go.Proofs.Ytfajabboibcgpaa.PT Go.Proofs.Ytfajabboibcgpaa.PU Go.Proofs.Ytfajabboibcgpaa.PG Go.Proofs.Ytfajabboibcgpaa.PQ Go.Proofs.Ytfajabboibcgpaa.PA
set_option linter.unusedVariables false
end Go.Proofs.Ytfajabboibcgpaa.PV
end
section
namespace Go.Proofs.Ytfajabboibcgpaa.PW
open Go.RowKit Go.Proofs.YtfajabboibcgpaaW.PrintWords Go.Proofs.YtfajabboibcgpaaW.PrintLast Go.Proofs.YtfajabboibcgpaaW.PrintMore Go.Proofs.Ytfajabboibcgpaa.PB Go.Proofs.Ytfajabboibcgpaa.PD Go.Proofs.Ytfajabboibcgpaa.PK Go.Proofs.Ytfajabboibcgpaa.PL Go.Proofs.Ytfajabboibcgpaa.PS Go.Proofs.Ytfajabboibcgpaa.PT Go.Proofs.Ytfajabboibcgpaa.PU Go.Proofs.Ytfajabboibcgpaa.PG Go.Proofs.Ytfajabboibcgpaa.PQ Go.Proofs.Ytfajabboibcgpaa.PV Go.Proofs.Ytfajabboibcgpaa.PA
set_option linter.unusedVariables false
theorem loop_yes {β : Type} (n : Nat) (S : Nat → Nat → Option β) (Q : Nat → Prop) (b : β) (hround : ∀ r i, i < n → Q i → Ev (S (i + 1)) r → Ev (S i) r) (hend : Ev (S n) b) (hq : ∀ i, i < n → Q i) : Ev (S 0) b :=
  loop_up n S hend (fun i hi h => hround b i hi (hq i hi) h)
theorem loop_no {β : Type} (n : Nat) (S : Nat → Nat → Option β) (Q : Nat → Prop) (no : β) (hround : ∀ r i, i < n → Q i → Ev (S (i + 1)) r → Ev (S i) r) (hno : ∀ i, i < n → ¬ Q i → Ev (S i) no) (hq : ¬ ∀ i, i < n → Q i) : Ev (S 0) no := by
  refine Classical.byContradiction fun hc => hq ?_
  have key : ∀ i, i ≤ n → (¬ Ev (S i) no) ∧ ∀ j, j < i → Q j := by
    intro i
    induction i with
    | zero => intro _; exact ⟨hc, fun j hj => absurd hj (Nat.not_lt_zero j)⟩
    | succ i ih =>
      intro hi
      obtain ⟨h1, h2⟩ := ih (by omega)
      have hQ : Q i := Classical.byContradiction fun h => h1 (hno i (by omega) h)
      refine ⟨fun h => h1 (hround no i (by omega) hQ h), fun j hj => ?_⟩
      by_cases e : j = i
      · subst e; exact hQ
      · exact h2 j (by omega)
  exact (key n (Nat.le_refl n)).2
theorem all_at (l : List ByteArray) (p : ByteArray → Bool) : l.all p = true ↔ ∀ i, i < l.length → p (rdOf ByteArray.empty l (i : Int)) = true := by
  rw [List.all_eq_true]
  constructor
  · intro h i hi
    rw [rdOf_at _ _ _ hi]
    exact h _ (List.getElem_mem hi)
  · intro h x hx
    obtain ⟨i, hi, e⟩ := List.getElem_of_mem hx
    have := h i hi
    rw [rdOf_at _ _ _ hi, e] at this
    exact this
abbrev tx (l : List ByteArray) (i : Nat) : ByteArray := rdOf ByteArray.empty l (i : Int)
end Go.Proofs.Ytfajabboibcgpaa.PW
end
section
namespace Go.Proofs.Ytfajabboibcgpaa.Pure
open Go.RowKit Go.Proofs.YtfajabboibcgpaaW.PrintWords Go.Proofs.YtfajabboibcgpaaW.PrintLast Go.Proofs.YtfajabboibcgpaaW.PrintMore Go.Proofs.Ytfajabboibcgpaa.PB Go.Proofs.Ytfajabboibcgpaa.PD Go.Proofs.Ytfajabboibcgpaa.PK Go.Proofs.Ytfajabboibcgpaa.PL Go.Proofs.Ytfajabboibcgpaa.PS Go.Proofs.Ytfajabboibcgpaa.PT Go.Proofs.Ytfajabboibcgpaa.PU Go.Proofs.Ytfajabboibcgpaa.PG Go.Proofs.Ytfajabboibcgpaa.PW Go.Proofs.Ytfajabboibcgpaa.PA
set_option linter.unusedVariables false
theorem k116 : Kd_ 116 := ⟨by decide, by decide⟩
theorem pairDS (a b : ByteArray) (ha : a.size ≤ 1000000) (hb : b.size ≤ 1000000) : Ev (fun k => spec_l3Pair.f k a b) (dig 116 (a ++ b)) :=
  ev_pos (by omega) (ev_bind (digS 116 k116 _ (by rw [app_size]; omega)) (Ev.now _))
theorem pairDI (a b : ByteArray) (ha : a.size ≤ 1000000) (hb : b.size ≤ 1000000) : Ev (fun k => impl_pair.f k a b) (dig 116 (a ++ b)) :=
  ev_pos (by omega) (ev_bind (digI 116 k116 _ (by rw [app_size]; omega)) (Ev.now _))
theorem four_at {l : List ByteArray} (h : all4 l = true) (i : Nat) (hi : i < l.length) : (rdOf ByteArray.empty l (i : Int)).size = 4 := of_decide_eq_true ((all_at l _).1 h i hi)
theorem top_two (l : List ByteArray) (h : all4 l = true) (hl : l.length ≤ 2000000) (no : Int) (leaf : ByteArray) (hz : leaf.size = 4) : ∃ r, Ev (fun k => spec_l3Top.f k no leaf l) r ∧ Ev (fun k => impl_topFrom.f k no leaf l) r := by
  have key : ∀ (d i : Nat) (x : Int) (t : ByteArray), i + d = l.length → t.size = 4 → ∃ r, Ev (fun k => spec_l3Top.l0 k x t l (l.length : Int) (i : Int)) r ∧ Ev (fun k => impl_topFrom.l0 k x t l (l.length : Int) (i : Int)) r := by
    intro d
    induction d with
    | zero =>
      intro i x t hi ht
      exact ⟨t, Ev.step (f := fun _ => some t) (fun k => by simp only [spec_l3Top.l0]; rw [if_neg (by omega)]) (Ev.now _), Ev.step (f := fun _ => some t) (fun k => by simp only [impl_topFrom.l0]; rw [if_neg (by omega)]) (Ev.now _)⟩
    | succ d ih =>
      intro i x t hi ht
      have hlt : i < l.length := by omega
      have h4 := four_at h i hlt
      have s1 : ∀ {r : ByteArray}, Ev (fun k => if Int.tmod x 2 = 0 then ((spec_l3Pair.f k t (rdOf ByteArray.empty l (i : Int))).bind fun u => spec_l3Top.l0 k (wrap64 (Int.tdiv x 2)) u l (l.length : Int) ((i + 1 : Nat) : Int)) else ((spec_l3Pair.f k (rdOf ByteArray.empty l (i : Int)) t).bind fun u => spec_l3Top.l0 k (wrap64 (Int.tdiv x 2)) u l (l.length : Int) ((i + 1 : Nat) : Int))) r → Ev (fun k => spec_l3Top.l0 k x t l (l.length : Int) (i : Int)) r := by
        intro r hr
        refine Ev.step (fun k => ?_) hr
        simp only [spec_l3Top.l0]
        rw [if_pos (by omega), if_pos (by omega), if_pos (by omega), w64 (x := (i : Int) + 1) (by omega) (by omega)]
        rfl
      have s2 : ∀ {r : ByteArray}, Ev (fun k => if Int.tmod x 2 = 0 then ((impl_pair.f k t (rdOf ByteArray.empty l (i : Int))).bind fun u => impl_topFrom.l0 k (wrap64 (Int.tdiv x 2)) u l (l.length : Int) ((i + 1 : Nat) : Int)) else ((impl_pair.f k (rdOf ByteArray.empty l (i : Int)) t).bind fun u => impl_topFrom.l0 k (wrap64 (Int.tdiv x 2)) u l (l.length : Int) ((i + 1 : Nat) : Int))) r → Ev (fun k => impl_topFrom.l0 k x t l (l.length : Int) (i : Int)) r := by
        intro r hr
        refine Ev.step (fun k => ?_) hr
        simp only [impl_topFrom.l0]
        rw [if_pos (by omega), if_pos (by omega), if_pos (by omega), w64 (x := (i : Int) + 1) (by omega) (by omega)]
        rfl
      by_cases c : Int.tmod x 2 = 0
      · obtain ⟨r, h1, h2⟩ := ih (i + 1) (wrap64 (Int.tdiv x 2)) (dig 116 (t ++ rdOf ByteArray.empty l (i : Int))) (by omega) (dig_size _ _)
        exact ⟨r, s1 (ev_pos c (ev_bind (pairDS _ _ (by omega) (by omega)) h1)), s2 (ev_pos c (ev_bind (pairDI _ _ (by omega) (by omega)) h2))⟩
      · obtain ⟨r, h1, h2⟩ := ih (i + 1) (wrap64 (Int.tdiv x 2)) (dig 116 (rdOf ByteArray.empty l (i : Int) ++ t)) (by omega) (dig_size _ _)
        exact ⟨r, s1 (ev_neg c (ev_bind (pairDS _ _ (by omega) (by omega)) h1)), s2 (ev_neg c (ev_bind (pairDI _ _ (by omega) (by omega)) h2))⟩
  exact key l.length 0 no leaf (by omega) hz
theorem fourS (l : List ByteArray) (n : Int) (hl : l.length ≤ 4000000000000000000) : Ev (fun k => spec_l3Four.f k l n) (decide ((l.length : Int) = n) && all4 l) := by
  have round : ∀ (r : Bool) i, i < l.length → (tx l i).size = 4 → Ev (fun k => spec_l3Four.l0 k l n l (l.length : Int) ((i + 1 : Nat) : Int)) r → Ev (fun k => spec_l3Four.l0 k l n l (l.length : Int) (i : Int)) r := by
    intro r i hi hq h
    have hq' : (rdOf ByteArray.empty l (i : Int)).size = 4 := hq
    refine Ev.step (f := fun k => spec_l3Four.l0 k l n l (l.length : Int) ((i + 1 : Nat) : Int)) (fun k => ?_) h
    simp only [spec_l3Four.l0]
    rw [if_pos (by omega), if_pos (by omega), if_pos (by omega), if_pos (by omega), w64 (x := (i : Int) + 1) (by omega) (by omega)]
    rfl
  by_cases hA : ∀ i, i < l.length → (tx l i).size = 4
  · have h4 : all4 l = true := (all_at l _).2 (fun i hi => decide_eq_true (hA i hi))
    refine loop_yes l.length (fun i k => spec_l3Four.l0 k l n l (l.length : Int) (i : Int)) _ _ round ?_ hA
    refine Ev.step (f := fun _ => some ((l.length : Int) == n)) (fun k => by simp only [spec_l3Four.l0]; rw [if_neg (by omega)]) (ev_eq (Ev.now _) ?_)
    rw [h4, Bool.and_true]; rfl
  · have h4 : all4 l = false := by
      cases e : all4 l with
      | false => rfl
      | true => exact absurd (fun i hi => four_at e i hi) hA
    refine ev_eq (loop_no l.length (fun i k => spec_l3Four.l0 k l n l (l.length : Int) (i : Int)) _ false round (fun i hi hq => ?_) hA) (by rw [h4, Bool.and_false])
    have hq' : ¬ (rdOf ByteArray.empty l (i : Int)).size = 4 := hq
    refine Ev.step (f := fun _ => some false) (fun k => ?_) (Ev.now _)
    simp only [spec_l3Four.l0]
    rw [if_pos (by omega), if_pos (by omega), if_pos (by omega), if_neg (by omega)]
def noB (n : Int) : Bool := decide (0 ≤ n ∧ n ≤ 7)
theorem noS (n : Int) : spec_l3No.f n = some (noB n) := by unfold spec_l3No.f; rw [inS]; rfl
theorem useI (n : Int) : impl_isUse.f n = some (noB n) := by unfold impl_isUse.f; rw [inI]; rfl
theorem fromM_size (t : ByteArray) (l : List ByteArray) : (fromM t l).size = 4 := dig_size _ _
theorem checkSeal_two (top text : ByteArray) (n : Int) (sg way : List ByteArray) (hs : sg.length ≤ 2000000) (hw : way.length ≤ 2000000) : ∃ r, Ev (fun k => spec_CheckSeal.f k top text n sg way) r ∧ Ev (fun k => impl_CheckSeal.f k top text n sg way) r := by
  have yS : Ev (fun k => spec_CheckSeal.j0 k top text true n sg way) (false, false) := Ev.step (f := fun _ => some (false, false)) (fun k => by simp only [spec_CheckSeal.j0]; rw [if_pos trivial]) (Ev.now _)
  have yI : Ev (fun k => impl_CheckSeal.j0 k top text true n sg way) (false, false) := Ev.step (f := fun _ => some (false, false)) (fun k => by simp only [impl_CheckSeal.j0]; rw [if_pos trivial]) (Ev.now _)
  have hG := good11S sg (by omega)
  have hW := fourS way 3 (by omega)
  have hI := isSignI text sg (by omega)
  have hA := areDigI way 3 (by omega)
  by_cases h1 : top.size = 4
  · by_cases h2 : (text.size : Int) ≤ 200
    · cases h3 : noB n with
      | false =>
        refine ⟨(false, false), ev_pos (by omega) (ev_const (longS text) (ev_pos (decide_eq_true h2) (ev_bind (a := false) ?_ yS))), ev_const (isDigI top) (ev_pos (decide_eq_true h1) (ev_const (useI n) (ev_neg (by simp [h3]) yI)))⟩
        exact ev_const (noS n) (ev_neg (by simp [h3]) (Ev.now _))
      | true =>
        cases h4 : (decide ((sg.length : Int) = 11) && all4 sg) with
        | false =>
          rw [h4] at hG
          have e : okSign text sg = false := by unfold okSign; rw [h4, Bool.and_false]
          rw [e] at hI
          refine ⟨(false, false), ev_pos (by omega) (ev_const (longS text) (ev_pos (decide_eq_true h2) (ev_bind (a := false) ?_ yS))), ev_const (isDigI top) (ev_pos (decide_eq_true h1) (ev_const (useI n) (ev_pos h3 (ev_bind hI (ev_neg (by simp) yI)))))⟩
          exact ev_const (noS n) (ev_pos h3 (ev_bind hG (ev_neg (by simp) (Ev.now _))))
        | true =>
          rw [h4] at hG
          have e : okSign text sg = true := by unfold okSign; rw [h4, decide_eq_true h2]; rfl
          have hg := okSign_good e
          rw [e] at hI
          cases h5 : (decide ((way.length : Int) = 3) && all4 way) with
          | false =>
            rw [h5] at hW hA
            refine ⟨(false, false), ev_pos (by omega) (ev_const (longS text) (ev_pos (decide_eq_true h2) (ev_bind (a := false) ?_ yS))), ev_const (isDigI top) (ev_pos (decide_eq_true h1) (ev_const (useI n) (ev_pos h3 (ev_bind hI (ev_pos rfl (ev_bind hA yI))))))⟩
            exact ev_const (noS n) (ev_pos h3 (ev_bind hG (ev_pos rfl (ev_bind hW (Ev.now _)))))
          | true =>
            rw [h5] at hW hA
            rw [Bool.and_eq_true] at h5
            obtain ⟨r, t1, t2⟩ := top_two way h5.2 hw n (fromM text sg) (fromM_size _ _)
            refine ⟨(r.toList == top.toList, true), ev_pos (by omega) (ev_const (longS text) (ev_pos (decide_eq_true h2) (ev_bind (a := true) ?_ ?_))), ev_const (isDigI top) (ev_pos (decide_eq_true h1) (ev_const (useI n) (ev_pos h3 (ev_bind hI (ev_pos rfl (ev_bind hA ?_))))))⟩
            · exact ev_const (noS n) (ev_pos h3 (ev_bind hG (ev_pos rfl (ev_bind hW (Ev.now _)))))
            · refine Ev.step (f := fun k => (spec_l2From.f k text sg).bind fun t464 => ((spec_l3Top.f k n t464 way).bind fun t465 => (some ((t465.toList == top.toList), true)))) (fun k => by simp only [Bool.not_true, spec_CheckSeal.j0]; rw [if_neg (by simp)]) ?_
              exact ev_bind (fromS text sg (by omega) hg.2) (ev_bind t1 (Ev.now _))
            · refine Ev.step (f := fun k => (impl_publicFrom.f k text sg).bind fun t464 => ((impl_topFrom.f k n t464 way).bind fun t465 => (some ((t465.toList == top.toList), true)))) (fun k => by simp only [Bool.not_true, impl_CheckSeal.j0]; rw [if_neg (by simp)]) ?_
              exact ev_bind (fromI text sg (by omega) hg.2) (ev_bind t2 (Ev.now _))
    · refine ⟨(false, false), ev_pos (by omega) (ev_const (longS text) (ev_neg (by simp [h2]) yS)), ev_const (isDigI top) (ev_pos (decide_eq_true h1) (ev_const (useI n) ?_))⟩
      have e : okSign text sg = false := by unfold okSign; rw [decide_eq_false h2]; rfl
      rw [e] at hI
      cases h3 : noB n with
      | false => exact ev_neg (by simp) yI
      | true => exact ev_pos rfl (ev_bind hI (ev_neg (by simp) yI))
  · exact ⟨(false, false), ev_neg (by omega) yS, ev_const (isDigI top) (ev_neg (by simp [h1]) yI)⟩
theorem szSeal (n : Int) (A B : List ByteArray) (h1 : Fit A) (h2 : Fit B) (R : Int) (h0 : 0 ≤ R) (hR : R ≤ 1000000000) : Ev (fun k => laws_szSeal.f k n A B R) (left R (total A + total B)) := by
  refine ev_bind (szS A h1 R h0 hR) ?_
  by_cases c1 : (total A : Int) ≤ R
  · rw [if_pos c1]
    refine ev_neg (by omega) (ev_bind (szS B h2 (R - total A) (by omega) (by omega)) ?_)
    by_cases c2 : (total B : Int) ≤ R - total A
    · rw [if_pos c2]
      refine ev_neg (by omega) (ev_eq (Ev.now _) ?_)
      rw [left_yes (by omega)]; omega
    · rw [if_neg c2]
      exact ev_pos (by omega) (ev_eq (Ev.now _) (left_no (by omega)).symm)
  · rw [if_neg c1]
    exact ev_pos (by omega) (ev_eq (Ev.now _) (left_no (by omega)).symm)
theorem toSeal (n : Int) (A B : List ByteArray) (hA : A.length ≤ 2000000) (hB : B.length ≤ 2000000) : Ev (fun k => laws_toSeal.f k n A B) (n, A, B) := ev_bind (toS A hA) (ev_bind (toS B hB) (Ev.now _))
theorem eqSeal (n : Int) (A B : List ByteArray) (hA : A.length ≤ 2000000) (hB : B.length ≤ 2000000) : Ev (fun k => laws_eqSeal.f k n A B n A B) true :=
  ev_pos rfl (ev_bind (eqS_yes A hA) (ev_pos rfl (ev_bind (eqS_yes B hB) (ev_pos rfl (Ev.now _)))))
theorem FnExactCheckSeal (top text : ByteArray) (n : Int) (A B : List ByteArray) (h0 : top.size ≤ maxLen) (h1 : text.size ≤ maxLen)
    (hs : (Lit.int .i64 n).wf = true ∧ (A.length ≤ maxLen ∧ ∀ s ∈ A, s.size ≤ maxLen) ∧ (B.length ≤ maxLen ∧ ∀ s ∈ B, s.size ≤ maxLen)) : ∃ k, laws_FnExactCheckSeal.f k top text n A B = some true := by
  refine Ev.rounds ?_
  unfold laws_FnExactCheckSeal.f
  by_cases c0 : (top.size : Int) > 1048576
  · simp only [if_pos c0]; exact Ev.now _
  simp only [if_neg c0]
  by_cases c1 : (text.size : Int) > 1048576
  · simp only [if_pos c1]; exact Ev.now _
  simp only [if_neg c1]
  have hz := szSeal n A B hs.2.1 hs.2.2 1048576 (by omega) (by omega)
  by_cases ht : ((total A + total B : Nat) : Int) ≤ 1048576
  · rw [left_yes ht] at hz
    have hA : A.length ≤ 2000000 := by unfold total at ht; omega
    have hB : B.length ≤ 2000000 := by unfold total at ht; omega
    obtain ⟨⟨r, ok⟩, hsS, hiI⟩ := checkSeal_two top text n A B hA hB
    refine ev_bind hz (ev_neg (by omega) (ev_bind (toSeal n A B hA hB) (ev_bind hsS (ev_bind (toSeal n A B hA hB) (ev_bind hiI ?_)))))
    refine ev_neg (by simp) ?_
    refine Ev.step (f := fun k => _) (fun k => by simp only [laws_FnExactCheckSeal.j0]; rfl) ?_
    exact ev_neg (by simp) (ev_bind (toSeal n A B hA hB) (ev_bind (eqSeal n A B hA hB) (ev_pos rfl (Ev.now _))))
  · rw [left_no ht] at hz
    exact ev_bind hz (ev_pos (by omega) (Ev.now _))
end Go.Proofs.Ytfajabboibcgpaa.Pure
end
section
namespace Go.Proofs.Ytfajabboibcgpaa.RO
open Go.RowKit Go.Proofs.YtfajabboibcgpaaW.PrintWords Go.ChangeShapes Go.WideShapes
set_option linter.unusedVariables false
def Opn (P : Program) (W : World) (e : TypeId) {α : Type} (d : Kd α) (G : α → Prop) : Prop :=
  ∀ {H : Type} {enc : TypeId × Value → H} {base : Nat} {spare : Nat → Bool} {held : Bool} {n : Nat} {cs : List Value} {x : DataW H × List MemPlace},
    DataW.trod enc P W base spare held n e cs = some x → ∃ y : α, d.K W y cs ∧ G y
section
variable {P : Program} {W : World} {e t : TypeId}
theorem op_string (he : P.underlying e = some .string) : Opn P W e Kd.string (fun s => s.size ≤ maxLen) := by
  intro H enc base spare held n cs x h
  obtain ⟨s, rfl, _, hs⟩ := DataW.trod_string he h
  exact ⟨s, rfl, hs⟩
theorem op_int {k : IntKind} (he : P.underlying e = some (.int k)) : Opn P W e (Kd.int k) (fun n => (Lit.int k n).wf = true) := by
  intro H enc base spare held n cs x h
  obtain ⟨m, rfl, _, hs⟩ := DataW.trod_int he h
  exact ⟨m, rfl, hs⟩
theorem pick {α : Type} {p : Nat → α → Prop} : ∀ (n : Nat), (∀ i, i < n → ∃ y, p i y) → ∃ ys : List α, ys.length = n ∧ ∀ i y, ys[i]? = some y → p i y := by
  intro n
  induction n with
  | zero => intro _; exact ⟨[], rfl, fun i y h => by simp at h⟩
  | succ n ih =>
    intro h
    obtain ⟨ys, hl, hp⟩ := ih (fun i hi => h i (by omega))
    obtain ⟨y, hy⟩ := h n (by omega)
    refine ⟨ys ++ [y], by simp [hl], fun i z hz => ?_⟩
    by_cases hi : i < n
    · rw [List.getElem?_append_left (by omega)] at hz
      exact hp i z hz
    · rw [List.getElem?_append_right (by omega)] at hz
      have : i = n := by
        rcases Nat.lt_or_ge (i - ys.length) 1 with h1 | h1
        · omega
        · rw [List.getElem?_eq_none (by simpa using h1)] at hz; cases hz
      subst this
      rw [hl, Nat.sub_self] at hz
      simp at hz
      subst hz
      exact hy
theorem op_slice {α : Type} {d : Kd α} {G : α → Prop} (ht : P.underlying t = some (.slice e)) (hc : P.cellsOf e = d.sz) (ho : Opn P W e d G) : Opn P W t (Kd.slice e d) (fun l => l.length ≤ maxLen ∧ ∀ x ∈ l, G x) := by
  intro H enc base spare held n cs x h
  rcases Deep.open_slice ht h with ⟨rfl, _⟩ | ⟨a, len, cap, m, n', D, Pl, rfl, _, hl, hm, hmm, _, hx⟩
  · exact ⟨[], ⟨none, 0, rfl, Nat.le_refl _, Kd.C_nil _ _⟩, by simp [maxLen], fun x hx => by cases hx⟩
  · obtain ⟨ys, hyl, hy⟩ := pick (p := fun i y => ∃ c, c.length = d.sz ∧ d.K W y c ∧ G y ∧ ∀ j u, c[j]? = some u → W.cell? (a.add (i * d.sz + j)) = some u) len (fun i hi => by
      have him : i < m := by rw [hmm]; split <;> omega
      obtain ⟨c, h1, h2⟩ := hx i him
      obtain ⟨y, hk, hg⟩ := ho h2
      obtain ⟨_, hcl, hcell⟩ := World.cells?_some h1
      rw [hc] at hcl hcell
      refine ⟨y, c, hcl, hk, hg, fun j u hj => ?_⟩
      have hj' : j < d.sz := by rw [← hcl]; exact (List.getElem?_eq_some_iff.1 hj).1
      have := hcell j hj'
      rw [hj] at this
      rw [← this]
      congr 1
      have e0 : ∀ p q : Nat, (a.add p).add q = a.add (p + q) := by
        intro p q
        obtain ⟨b, o, s⟩ := a
        unfold Addr.add
        by_cases hp : p = 0
        · subst hp; simp
        · by_cases hq : q = 0
          · subst hq; simp [hp]
          · simp [hp, hq]; omega
      rw [e0])
    refine ⟨ys, ⟨some a, cap, by rw [hyl], by omega, rfl, by rw [hyl]; unfold maxLen at hm; omega, fun h0 => ⟨a, rfl, fun j p hj => ?_⟩⟩, by rw [hyl]; omega, fun x hx => ?_⟩
    · obtain ⟨c, h1, h2, _, h3⟩ := hy j p hj
      exact ⟨c, h1, h2, h3⟩
    · obtain ⟨i, hi⟩ := List.getElem?_of_mem hx
      obtain ⟨c, _, _, h, _⟩ := hy i x hi
      exact h
def OpAt (P : Program) (W : World) (fs : List (TypeId × Nat)) (off : Nat) {α : Type} (d : Kd α) (G : α → Prop) : Prop :=
  ∀ {H : Type} {enc : TypeId × Value → H} {base : Nat} {spare : Nat → Bool} {held : Bool} {n : Nat} {cs : List Value}, cs.length = off + d.sz →
    (∀ f ∈ fs, ∃ x, DataW.trod enc P W base spare held n f.1 ((cs.drop f.2).take (P.cellsOf f.1)) = some x) → ∃ y : α, d.K W y (cs.drop off) ∧ G y
theorem opAt_one {off : Nat} {α : Type} {d : Kd α} {G : α → Prop} (hc : P.cellsOf e = d.sz) (h : Opn P W e d G) : OpAt P W [(e, off)] off d G := by
  intro H enc base spare held n cs hl hf
  obtain ⟨x, hx⟩ := hf (e, off) (List.mem_singleton.2 rfl)
  dsimp only at hx
  rw [hc, List.take_of_length_le (by rw [List.length_drop]; omega)] at hx
  exact h hx
theorem opAt_cons {off : Nat} {fs : List (TypeId × Nat)} {α β : Type} {d1 : Kd α} {d2 : Kd β} {G1 : α → Prop} {G2 : β → Prop} (hc : P.cellsOf e = d1.sz) (h1 : Opn P W e d1 G1) (h2 : OpAt P W fs (off + d1.sz) d2 G2) :
    OpAt P W ((e, off) :: fs) off (Kd.pair d1 d2) (fun y => G1 y.1 ∧ G2 y.2) := by
  intro H enc base spare held n cs hl hf
  have hl' : cs.length = off + (d1.sz + d2.sz) := hl
  obtain ⟨x, hx⟩ := hf (e, off) List.mem_cons_self
  dsimp only at hx
  rw [hc] at hx
  obtain ⟨y1, hk1, hg1⟩ := h1 hx
  obtain ⟨y2, hk2, hg2⟩ := h2 (cs := cs) (by omega) (fun f hf' => hf f (List.mem_cons_of_mem _ hf'))
  refine ⟨(y1, y2), ⟨(cs.drop off).take d1.sz, cs.drop (off + d1.sz), ?_, hk1, hk2⟩, hg1, hg2⟩
  rw [← List.drop_drop, List.take_append_drop]
theorem op_struct {fs : Array Field} {L : List (TypeId × Nat)} {α β : Type} {d : Kd α} {f : β → α} {g : α → β} {G : α → Prop} (ht : P.underlying t = some (.struct fs)) (hL : fs.toList.map (fun f => (f.type, f.offset)) = L) (hc : P.cellsOf t = d.sz) (hfg : ∀ y, f (g y) = y)
    (h : OpAt P W L 0 d G) : Opn P W t (Kd.iso d f) (fun x => G (f x)) := by
  intro H enc base spare held n cs x hx
  obtain ⟨xs, m, _, _, hl, hxl, hf⟩ := DataW.trod_struct ht hx
  obtain ⟨y, hk, hg⟩ := h (cs := cs) (n := m) (enc := enc) (base := base) (spare := spare) (held := held) (by rw [hl, hc]; omega) (fun q hq => by
    rw [← hL] at hq
    obtain ⟨fd, hfd, rfl⟩ := List.mem_map.1 hq
    obtain ⟨i, hi⟩ := List.getElem?_of_mem hfd
    rw [Array.getElem?_toList] at hi
    have hlt : i < xs.length := by
      have := (Array.getElem?_eq_some_iff.1 hi).1
      omega
    exact ⟨xs[i], by rw [hf i fd hi]; exact List.getElem?_eq_getElem hlt⟩)
  rw [List.drop_zero] at hk
  refine ⟨g y, ?_, ?_⟩
  · show d.K W (f (g y)) cs
    rw [hfg]; exact hk
  · show G (f (g y))
    rw [hfg]; exact hg
theorem op_struct0 {fs : Array Field} {L : List (TypeId × Nat)} {α : Type} {d : Kd α} {G : α → Prop} (ht : P.underlying t = some (.struct fs)) (hL : fs.toList.map (fun f => (f.type, f.offset)) = L) (hc : P.cellsOf t = d.sz)
    (h : OpAt P W L 0 d G) : Opn P W t d G := by
  intro H enc base spare held n cs x hx
  exact op_struct (d := d) (f := fun y : α => y) (g := fun y => y) ht hL hc (fun _ => rfl) h hx
end
theorem agg_of_cells {v : Value} {l : List Value} (h : v.cells.toList = l) (hl : 2 ≤ l.length) : v = .agg l.toArray := by
  cases v <;> simp only [Value.cells] at h
  case agg cs => subst h; simp
  all_goals (subst h; simp at hl)
end Go.Proofs.Ytfajabboibcgpaa.RO
end
