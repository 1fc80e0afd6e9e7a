/- For the law FnExactCheckAnswer (laid by merge.py). -/
import Derived.Test.YtmfipefpmjcddaaGreatDoorMFnExactCheckAnswerf
import Derived.Deep.Slices
import Derived.ChangeArms
import Derived.DataReads
section
namespace Go.Proofs.YtmfipefpmjcddaaGreatDoor.Pure
open Go.RowKit Go.Proofs.YtmfipefpmjcddaaGreatDoorW.PrintWords Go.Proofs.YtmfipefpmjcddaaGreatDoorW.PrintLast Go.Proofs.YtmfipefpmjcddaaGreatDoorW.PrintMore Go.Proofs.YtmfipefpmjcddaaGreatDoor.PB Go.Proofs.YtmfipefpmjcddaaGreatDoor.PD Go.Proofs.YtmfipefpmjcddaaGreatDoor.PK Go.Proofs.YtmfipefpmjcddaaGreatDoor.PL Go.Proofs.YtmfipefpmjcddaaGreatDoor.PS Go.Proofs.YtmfipefpmjcddaaGreatDoor.PT Go.Proofs.YtmfipefpmjcddaaGreatDoor.PU Go.Proofs.YtmfipefpmjcddaaGreatDoor.PG Go.Proofs.YtmfipefpmjcddaaGreatDoor.PW Go.Proofs.YtmfipefpmjcddaaGreatDoor.PA
set_option linter.unusedVariables false
theorem k116 : Kd_ 116 := ⟨by decide, by decide⟩
theorem pairDS (a b : ByteArray) (ha : a.size ≤ 1000000) (hb : b.size ≤ 1000000) : Ev (fun k => spec_l3Pair.f k a b) (dig 116 (a ++ b)) :=
 ev_pos (by omega) (ev_bind (digS 116 k116 _ (by rw [app_size]; omega)) (Ev.now _))
theorem pairDI (a b : ByteArray) (ha : a.size ≤ 1000000) (hb : b.size ≤ 1000000) : Ev (fun k => impl_pair.f k a b) (dig 116 (a ++ b)) :=
 ev_pos (by omega) (ev_bind (digI 116 k116 _ (by rw [app_size]; omega)) (Ev.now _))
theorem four_at {l : List ByteArray} (h : all4 l = true) (i : Nat) (hi : i < l.length) : (rdOf ByteArray.empty l (i : Int)).size = 4 := of_decide_eq_true ((all_at l _).1 h i hi)
theorem top_two (l : List ByteArray) (h : all4 l = true) (hl : l.length ≤ 2000000) (no : Int) (leaf : ByteArray) (hz : leaf.size = 4) : ∃ r, Ev (fun k => spec_l3Top.f k no leaf l) r ∧ Ev (fun k => impl_topFrom.f k no leaf l) r := by
 have key : ∀ (d i : Nat) (x : Int) (t : ByteArray), i + d = l.length → t.size = 4 → ∃ r, Ev (fun k => spec_l3Top.l0 k x t l (l.length : Int) (i : Int)) r ∧ Ev (fun k => impl_topFrom.l0 k x t l (l.length : Int) (i : Int)) r := by
  intro d
  induction d with
  | zero =>
   intro i x t hi ht
   exact ⟨t, Ev.step (f := fun _ => some t) (fun k => by simp only [spec_l3Top.l0]; rw [if_neg (by omega)]) (Ev.now _), Ev.step (f := fun _ => some t) (fun k => by simp only [impl_topFrom.l0]; rw [if_neg (by omega)]) (Ev.now _)⟩
  | succ d ih =>
   intro i x t hi ht
   have hlt : i < l.length := by omega
   have h4 := four_at h i hlt
   have s1 : ∀ {r : ByteArray}, Ev (fun k => if Int.tmod x 2 = 0 then ((spec_l3Pair.f k t (rdOf ByteArray.empty l (i : Int))).bind fun u => spec_l3Top.l0 k (wrap64 (Int.tdiv x 2)) u l (l.length : Int) ((i + 1 : Nat) : Int)) else ((spec_l3Pair.f k (rdOf ByteArray.empty l (i : Int)) t).bind fun u => spec_l3Top.l0 k (wrap64 (Int.tdiv x 2)) u l (l.length : Int) ((i + 1 : Nat) : Int))) r → Ev (fun k => spec_l3Top.l0 k x t l (l.length : Int) (i : Int)) r := by
    intro r hr
    refine Ev.step (fun k => ?_) hr
    simp only [spec_l3Top.l0]
    rw [if_pos (by omega), if_pos (by omega), if_pos (by omega), w64 (x := (i : Int) + 1) (by omega) (by omega)]
    rfl
   have s2 : ∀ {r : ByteArray}, Ev (fun k => if Int.tmod x 2 = 0 then ((impl_pair.f k t (rdOf ByteArray.empty l (i : Int))).bind fun u => impl_topFrom.l0 k (wrap64 (Int.tdiv x 2)) u l (l.length : Int) ((i + 1 : Nat) : Int)) else ((impl_pair.f k (rdOf ByteArray.empty l (i : Int)) t).bind fun u => impl_topFrom.l0 k (wrap64 (Int.tdiv x 2)) u l (l.length : Int) ((i + 1 : Nat) : Int))) r → Ev (fun k => impl_topFrom.l0 k x t l (l.length : Int) (i : Int)) r := by
    intro r hr
    refine Ev.step (fun k => ?_) hr
    simp only [impl_topFrom.l0]
    rw [if_pos (by omega), if_pos (by omega), if_pos (by omega), w64 (x := (i : Int) + 1) (by omega) (by omega)]
    rfl
   by_cases c : Int.tmod x 2 = 0
   ·obtain ⟨r, h1, h2⟩ := ih (i + 1) (wrap64 (Int.tdiv x 2)) (dig 116 (t ++ rdOf ByteArray.empty l (i : Int))) (by omega) (dig_size _ _)
    exact ⟨r, s1 (ev_pos c (ev_bind (pairDS _ _ (by omega) (by omega)) h1)), s2 (ev_pos c (ev_bind (pairDI _ _ (by omega) (by omega)) h2))⟩
   ·obtain ⟨r, h1, h2⟩ := ih (i + 1) (wrap64 (Int.tdiv x 2)) (dig 116 (rdOf ByteArray.empty l (i : Int) ++ t)) (by omega) (dig_size _ _)
    exact ⟨r, s1 (ev_neg c (ev_bind (pairDS _ _ (by omega) (by omega)) h1)), s2 (ev_neg c (ev_bind (pairDI _ _ (by omega) (by omega)) h2))⟩
 exact key l.length 0 no leaf (by omega) hz
theorem fourS (l : List ByteArray) (n : Int) (hl : l.length ≤ 4000000000000000000) : Ev (fun k => spec_l3Four.f k l n) (decide ((l.length : Int) = n) && all4 l) := by
 have round : ∀ (r : Bool) i, i < l.length → (tx l i).size = 4 → Ev (fun k => spec_l3Four.l0 k l n l (l.length : Int) ((i + 1 : Nat) : Int)) r → Ev (fun k => spec_l3Four.l0 k l n l (l.length : Int) (i : Int)) r := by
  intro r i hi hq h
  have hq' : (rdOf ByteArray.empty l (i : Int)).size = 4 := hq
  refine Ev.step (f := fun k => spec_l3Four.l0 k l n l (l.length : Int) ((i + 1 : Nat) : Int)) (fun k => ?_) h
  simp only [spec_l3Four.l0]
  rw [if_pos (by omega), if_pos (by omega), if_pos (by omega), if_pos (by omega), w64 (x := (i : Int) + 1) (by omega) (by omega)]
  rfl
 by_cases hA : ∀ i, i < l.length → (tx l i).size = 4
 ·have h4 : all4 l = true := (all_at l _).2 (fun i hi => decide_eq_true (hA i hi))
  refine loop_yes l.length (fun i k => spec_l3Four.l0 k l n l (l.length : Int) (i : Int)) _ _ round ?_ hA
  refine Ev.step (f := fun _ => some ((l.length : Int) == n)) (fun k => by simp only [spec_l3Four.l0]; rw [if_neg (by omega)]) (ev_eq (Ev.now _) ?_)
  rw [h4, Bool.and_true]; rfl
 ·have h4 : all4 l = false := by
   cases e : all4 l with
   | false => rfl
   | true => exact absurd (fun i hi => four_at e i hi) hA
  refine ev_eq (loop_no l.length (fun i k => spec_l3Four.l0 k l n l (l.length : Int) (i : Int)) _ false round (fun i hi hq => ?_) hA) (by rw [h4, Bool.and_false])
  have hq' : ¬ (rdOf ByteArray.empty l (i : Int)).size = 4 := hq
  refine Ev.step (f := fun _ => some false) (fun k => ?_) (Ev.now _)
  simp only [spec_l3Four.l0]
  rw [if_pos (by omega), if_pos (by omega), if_pos (by omega), if_neg (by omega)]
def noB (n : Int) : Bool := decide (0 ≤ n ∧ n ≤ 7)
theorem noS (n : Int) : spec_l3No.f n = some (noB n) := by unfold spec_l3No.f; rw [inS]; rfl
theorem useI (n : Int) : impl_isUse.f n = some (noB n) := by unfold impl_isUse.f; rw [inI]; rfl
theorem fromM_size (t : ByteArray) (l : List ByteArray) : (fromM t l).size = 4 := dig_size _ _
theorem checkSeal_two (top text : ByteArray) (n : Int) (sg way : List ByteArray) (hs : sg.length ≤ 2000000) (hw : way.length ≤ 2000000) : ∃ r, Ev (fun k => spec_CheckSeal.f k top text n sg way) r ∧ Ev (fun k => impl_CheckSeal.f k top text n sg way) r := by
 have yS : Ev (fun k => spec_CheckSeal.j0 k top text true n sg way) (false, false) := Ev.step (f := fun _ => some (false, false)) (fun k => by simp only [spec_CheckSeal.j0]; rw [if_pos trivial]) (Ev.now _)
 have yI : Ev (fun k => impl_CheckSeal.j0 k top text true n sg way) (false, false) := Ev.step (f := fun _ => some (false, false)) (fun k => by simp only [impl_CheckSeal.j0]; rw [if_pos trivial]) (Ev.now _)
 have hG := good11S sg (by omega)
 have hW := fourS way 3 (by omega)
 have hI := isSignI text sg (by omega)
 have hA := areDigI way 3 (by omega)
 by_cases h1 : top.size = 4
 ·by_cases h2 : (text.size : Int) ≤ 200
  ·cases h3 : noB n with
   | false =>
    refine ⟨(false, false), ev_pos (by omega) (ev_const (longS text) (ev_pos (decide_eq_true h2) (ev_bind (a := false) ?_ yS))), ev_const (isDigI top) (ev_pos (decide_eq_true h1) (ev_const (useI n) (ev_neg (by simp [h3]) yI)))⟩
    exact ev_const (noS n) (ev_neg (by simp [h3]) (Ev.now _))
   | true =>
    cases h4 : (decide ((sg.length : Int) = 11) && all4 sg) with
    | false =>
     rw [h4] at hG
     have e : okSign text sg = false := by unfold okSign; rw [h4, Bool.and_false]
     rw [e] at hI
     refine ⟨(false, false), ev_pos (by omega) (ev_const (longS text) (ev_pos (decide_eq_true h2) (ev_bind (a := false) ?_ yS))), ev_const (isDigI top) (ev_pos (decide_eq_true h1) (ev_const (useI n) (ev_pos h3 (ev_bind hI (ev_neg (by simp) yI)))))⟩
     exact ev_const (noS n) (ev_pos h3 (ev_bind hG (ev_neg (by simp) (Ev.now _))))
    | true =>
     rw [h4] at hG
     have e : okSign text sg = true := by unfold okSign; rw [h4, decide_eq_true h2]; rfl
     have hg := okSign_good e
     rw [e] at hI
     cases h5 : (decide ((way.length : Int) = 3) && all4 way) with
     | false =>
      rw [h5] at hW hA
      refine ⟨(false, false), ev_pos (by omega) (ev_const (longS text) (ev_pos (decide_eq_true h2) (ev_bind (a := false) ?_ yS))), ev_const (isDigI top) (ev_pos (decide_eq_true h1) (ev_const (useI n) (ev_pos h3 (ev_bind hI (ev_pos rfl (ev_bind hA yI))))))⟩
      exact ev_const (noS n) (ev_pos h3 (ev_bind hG (ev_pos rfl (ev_bind hW (Ev.now _)))))
     | true =>
      rw [h5] at hW hA
      rw [Bool.and_eq_true] at h5
      obtain ⟨r, t1, t2⟩ := top_two way h5.2 hw n (fromM text sg) (fromM_size _ _)
      refine ⟨(r.toList == top.toList, true), ev_pos (by omega) (ev_const (longS text) (ev_pos (decide_eq_true h2) (ev_bind (a := true) ?_ ?_))), ev_const (isDigI top) (ev_pos (decide_eq_true h1) (ev_const (useI n) (ev_pos h3 (ev_bind hI (ev_pos rfl (ev_bind hA ?_))))))⟩
      ·exact ev_const (noS n) (ev_pos h3 (ev_bind hG (ev_pos rfl (ev_bind hW (Ev.now _)))))
      ·refine Ev.step (f := fun k => (spec_l2From.f k text sg).bind fun t464 => ((spec_l3Top.f k n t464 way).bind fun t465 => (some ((t465.toList == top.toList), true)))) (fun k => by simp only [Bool.not_true, spec_CheckSeal.j0]; rw [if_neg (by simp)]) ?_
       exact ev_bind (fromS text sg (by omega) hg.2) (ev_bind t1 (Ev.now _))
      ·refine Ev.step (f := fun k => (impl_publicFrom.f k text sg).bind fun t464 => ((impl_topFrom.f k n t464 way).bind fun t465 => (some ((t465.toList == top.toList), true)))) (fun k => by simp only [Bool.not_true, impl_CheckSeal.j0]; rw [if_neg (by simp)]) ?_
       exact ev_bind (fromI text sg (by omega) hg.2) (ev_bind t2 (Ev.now _))
  ·refine ⟨(false, false), ev_pos (by omega) (ev_const (longS text) (ev_neg (by simp [h2]) yS)), ev_const (isDigI top) (ev_pos (decide_eq_true h1) (ev_const (useI n) ?_))⟩
   have e : okSign text sg = false := by unfold okSign; rw [decide_eq_false h2]; rfl
   rw [e] at hI
   cases h3 : noB n with
   | false => exact ev_neg (by simp) yI
   | true => exact ev_pos rfl (ev_bind hI (ev_neg (by simp) yI))
 ·exact ⟨(false, false), ev_neg (by omega) yS, ev_const (isDigI top) (ev_neg (by simp [h1]) yI)⟩
theorem szSeal (n : Int) (A B : List ByteArray) (h1 : Fit A) (h2 : Fit B) (R : Int) (h0 : 0 ≤ R) (hR : R ≤ 1000000000) : Ev (fun k => laws_szSeal.f k n A B R) (left R (total A + total B)) := by
 refine ev_bind (szS A h1 R h0 hR) ?_
 by_cases c1 : (total A : Int) ≤ R
 ·rw [if_pos c1]
  refine ev_neg (by omega) (ev_bind (szS B h2 (R - total A) (by omega) (by omega)) ?_)
  by_cases c2 : (total B : Int) ≤ R - total A
  ·rw [if_pos c2]
   refine ev_neg (by omega) (ev_eq (Ev.now _) ?_)
   rw [left_yes (by omega)]; omega
  ·rw [if_neg c2]
   exact ev_pos (by omega) (ev_eq (Ev.now _) (left_no (by omega)).symm)
 ·rw [if_neg c1]
  exact ev_pos (by omega) (ev_eq (Ev.now _) (left_no (by omega)).symm)
theorem toSeal (n : Int) (A B : List ByteArray) (hA : A.length ≤ 2000000) (hB : B.length ≤ 2000000) : Ev (fun k => laws_toSeal.f k n A B) (n, A, B) := ev_bind (toS A hA) (ev_bind (toS B hB) (Ev.now _))
theorem eqSeal (n : Int) (A B : List ByteArray) (hA : A.length ≤ 2000000) (hB : B.length ≤ 2000000) : Ev (fun k => laws_eqSeal.f k n A B n A B) true :=
 ev_pos rfl (ev_bind (eqS_yes A hA) (ev_pos rfl (ev_bind (eqS_yes B hB) (ev_pos rfl (Ev.now _)))))
end Go.Proofs.YtmfipefpmjcddaaGreatDoor.Pure
end
section
namespace Go.Proofs.YtmfipefpmjcddaaGreatDoor.PO
open Go.RowKit Go.Proofs.YtmfipefpmjcddaaGreatDoorW.PrintWords Go.Proofs.YtmfipefpmjcddaaGreatDoorW.PrintLast Go.Proofs.YtmfipefpmjcddaaGreatDoorW.PrintMore Go.Proofs.YtmfipefpmjcddaaGreatDoor.PB Go.Proofs.YtmfipefpmjcddaaGreatDoor.PL Go.Proofs.YtmfipefpmjcddaaGreatDoor.PG Go.Proofs.YtmfipefpmjcddaaGreatDoor.PW Go.Proofs.YtmfipefpmjcddaaGreatDoor.PA
set_option linter.unusedVariables false
theorem bl_trans : ∀ (x y z : List UInt8), Op.bytesLess x y = true → Op.bytesLess y z = true → Op.bytesLess x z = true := by
 intro x
 induction x with
 | nil =>
  intro y z h1 h2
  cases z with
  | nil => cases y <;> simp [Op.bytesLess] at h2
  | cons c z => rfl
 | cons a x ih =>
  intro y z h1 h2
  cases y with
  | nil => simp [Op.bytesLess] at h1
  | cons b y =>
   cases z with
   | nil => simp [Op.bytesLess] at h2
   | cons c z =>
    simp only [Op.bytesLess, Bool.or_eq_true, Bool.and_eq_true, decide_eq_true_eq, beq_iff_eq] at h1 h2 ⊢
    rcases h1 with h1 | ⟨rfl, h1⟩
    ·rcases h2 with h2 | ⟨rfl, h2⟩
     ·exact Or.inl (UInt8.lt_trans h1 h2)
     ·exact Or.inl h1
    ·rcases h2 with h2 | ⟨rfl, h2⟩
     ·exact Or.inl h2
     ·exact Or.inr ⟨rfl, ih y z h1 h2⟩
abbrev lessB (a b : ByteArray) : Bool := Op.bytesLess a.toList b.toList
def Lower (K : List ByteArray) (key : ByteArray) (i : Nat) : Prop := i ≤ K.length ∧ (∀ j, j < i → lessB (tx K j) key = true) ∧ (∀ j, i ≤ j → j < K.length → lessB (tx K j) key = false)
theorem rises_less {K : List ByteArray} (h : ∀ i, i < K.length → risesAt K i) : ∀ (d j : Nat), j + d + 1 < K.length → lessB (tx K j) (tx K (j + d + 1)) = true := by
 intro d
 induction d with
 | zero => intro j hj; exact h (j + 1) hj (by omega)
 | succ d ih =>
  intro j hj
  have h1 := ih j (by omega)
  have h2 := h (j + d + 1 + 1) hj (by omega)
  exact bl_trans _ _ _ h1 h2
theorem rises_lt {K : List ByteArray} (h : ∀ i, i < K.length → risesAt K i) (j m : Nat) (hj : j < m) (hm : m < K.length) : lessB (tx K j) (tx K m) = true := by
 have := rises_less h (m - j - 1) j (by omega)
 rw [show j + (m - j - 1) + 1 = m by omega] at this
 exact this
theorem cmpLess (a b : ByteArray) : cmp_Less_string.f a b = some (lessB a b) := by
 unfold cmp_Less_string.f cmp_isNaN_string.f
 simp only [Option.bind_some, bne_self_eq_false]
 rfl
theorem search (K : List ByteArray) (key : ByteArray) (hK : K.length ≤ 1000000000) (hr : ∀ i, i < K.length → risesAt K i) : ∃ i b, Ev (fun k => slices_BinarySearch_string_string.f k K key) ((i : Nat), b) ∧ Lower K key i := by
 have loop : ∀ (d lo hi : Nat), hi - lo = d → lo ≤ hi → hi ≤ K.length → (∀ j, j < lo → lessB (tx K j) key = true) → (∀ j, hi ≤ j → j < K.length → lessB (tx K j) key = false) →
   ∃ i b, Ev (fun k => slices_BinarySearch_string_string.l0 k K key (K.length : Int) (lo : Int) (hi : Int)) (((i : Nat) : Int), b) ∧ Lower K key i := by
  intro d
  induction d using Nat.strongRecOn with
  | _ d ih =>
   intro lo hi hd h1 h2 h3 h4
   by_cases hc : lo < hi
   ·have em : wrap64 ((IntKind.u64.wrap (wrap64 ((lo : Int) + (hi : Int)))) / 2) = (((lo + hi) / 2 : Nat) : Int) := by
     have e1 : wrap64 ((lo : Int) + (hi : Int)) = ((lo + hi : Nat) : Int) := by rw [w64 (by omega) (by omega)]; omega
     have e2 : IntKind.u64.wrap ((lo + hi : Nat) : Int) = ((lo + hi : Nat) : Int) := by
      have e3 : IntKind.u64.wrap ((lo + hi : Nat) : Int) = ((lo + hi : Nat) : Int) % 18446744073709551616 := by simp [IntKind.wrap, IntKind.bits, IntKind.signed]
      rw [e3]; omega
     rw [e1, e2, w64 (by omega) (by omega)]; omega
    have hm1 : lo ≤ (lo + hi) / 2 := by omega
    have hm2 : (lo + hi) / 2 < hi := by omega
    generalize (lo + hi) / 2 = m at em hm1 hm2
    have e5 : wrap64 ((m : Int) + 1) = ((m + 1 : Nat) : Int) := by rw [w64 (by omega) (by omega)]; rfl
    have c1 : (lo : Int) < (hi : Int) := by omega
    have c2 : 0 ≤ (m : Int) := by omega
    have c3 : (m : Int) < (K.length : Int) := by omega
    have st : ∀ {r}, Ev (fun k => if lessB (tx K m) key = true then slices_BinarySearch_string_string.l0 k K key (K.length : Int) ((m + 1 : Nat) : Int) (hi : Int) else slices_BinarySearch_string_string.l0 k K key (K.length : Int) (lo : Int) (m : Int)) r → Ev (fun k => slices_BinarySearch_string_string.l0 k K key (K.length : Int) (lo : Int) (hi : Int)) r := fun h => Ev.step (fun k => by
     simp only [slices_BinarySearch_string_string.l0]
     rw [em, if_pos c1, if_pos c2, if_pos c3, cmpLess, e5]
     rfl) h
    cases hl : lessB (tx K m) key with
    | true =>
     obtain ⟨i, b, hr', hL⟩ := ih (hi - (m + 1)) (by omega) (m + 1) hi rfl (by omega) h2 (fun j hj => by
      by_cases e : j = m
      ·rw [e]; exact hl
      ·exact bl_trans _ _ _ (rises_lt hr j m (by omega) (by omega)) hl) h4
     exact ⟨i, b, st (ev_pos hl hr'), hL⟩
    | false =>
     obtain ⟨i, b, hr', hL⟩ := ih (m - lo) (by omega) lo m rfl hm1 (by omega) h3 (fun j hj hjl => by
      by_cases e : j = m
      ·rw [e]; exact hl
      ·cases hx : lessB (tx K j) key with
       | false => rfl
       | true =>
        have := bl_trans _ _ _ (rises_lt hr m j (by omega) hjl) hx
        rw [show Op.bytesLess (tx K m).toList key.toList = false from hl] at this
        cases this)
     exact ⟨i, b, st (ev_neg (by simp [hl]) hr'), hL⟩
   ·have e : lo = hi := by omega
    subst e
    have hL : Lower K key lo := ⟨h2, h3, h4⟩
    have c1 : ¬ (lo : Int) < (lo : Int) := by omega
    by_cases hn : lo < K.length
    ·have c2 : (lo : Int) < (K.length : Int) := by omega
     have c3 : 0 ≤ (lo : Int) := by omega
     by_cases he : (tx K lo).toList = key.toList
     ·exact ⟨lo, true, Ev.step (f := fun _ => some ((lo : Int), true)) (fun k => by simp only [slices_BinarySearch_string_string.l0]; rw [if_neg c1, if_pos c2, if_pos c3, if_pos c2, if_pos he]) (Ev.now _), hL⟩
     ·refine ⟨lo, false, Ev.step (f := fun _ => some ((lo : Int), false)) (fun k => ?_) (Ev.now _), hL⟩
      simp only [slices_BinarySearch_string_string.l0, slices_isNaN_string.f]
      rw [if_neg c1, if_pos c2, if_pos c3, if_pos c2, if_neg he]
      simp only [Option.bind_some, bne_self_eq_false]
      rfl
    ·have c2 : ¬ (lo : Int) < (K.length : Int) := by omega
     exact ⟨lo, false, Ev.step (f := fun _ => some ((lo : Int), false)) (fun k => by simp only [slices_BinarySearch_string_string.l0]; rw [if_neg c1, if_neg c2]) (Ev.now _), hL⟩
 exact loop K.length 0 K.length (by omega) (by omega) (Nat.le_refl _) (fun j hj => by omega) (fun j hj hjl => by omega)
theorem lessI (K : List ByteArray) (key : ByteArray) (hK : K.length ≤ 1000000000) (hr : ∀ i, i < K.length → risesAt K i) : ∃ i : Nat, Ev (fun k => impl_less.f k K key) (i : Int) ∧ Lower K key i := by
 obtain ⟨i, b, h, hL⟩ := search K key hK hr
 exact ⟨i, ev_bind h (Ev.now _), hL⟩
theorem lessS (K V C : List ByteArray) (g : Int) (key : ByteArray) (i : Nat) (hK : K.length ≤ 1000000000) (hL : Lower K key i) : Ev (fun k => spec_l6Less.f k K V C g key) (i : Int) := by
 have key_ : ∀ (d j : Nat), j + d = i → Ev (fun k => spec_l6Less.l0 k key (j : Int) K V C g) (i : Int) := by
  intro d
  induction d with
  | zero =>
   intro j hj
   have hj' : j = i := by omega
   subst hj'
   by_cases hn : j < K.length
   ·have hx := hL.2.2 j (Nat.le_refl _) hn
    refine Ev.step (f := fun _ => some (j : Int)) (fun k => ?_) (Ev.now _)
    simp only [spec_l6Less.l0]
    rw [if_pos (by omega), if_pos (by omega), if_neg (by rw [show Op.bytesLess (rdOf ByteArray.empty K (j : Int)).toList key.toList = false from hx]; simp)]
   ·exact Ev.step (f := fun _ => some (j : Int)) (fun k => by simp only [spec_l6Less.l0]; rw [if_neg (by omega)]) (Ev.now _)
  | succ d ih =>
   intro j hj
   have hx := hL.2.1 j (by omega)
   have hn := hL.1
   refine Ev.step (f := fun k => spec_l6Less.l0 k key ((j + 1 : Nat) : Int) K V C g) (fun k => ?_) (ih (j + 1) (by omega))
   simp only [spec_l6Less.l0]
   rw [if_pos (by omega), if_pos (by omega), if_pos hx, w64 (x := (j : Int) + 1) (by omega) (by omega)]
   rfl
 exact key_ i 0 (by omega)
end Go.Proofs.YtmfipefpmjcddaaGreatDoor.PO
end
section
namespace Go.Proofs.YtmfipefpmjcddaaGreatDoor.PI
open Go.RowKit Go.Proofs.YtmfipefpmjcddaaGreatDoorW.PrintWords Go.Proofs.YtmfipefpmjcddaaGreatDoorW.PrintLast Go.Proofs.YtmfipefpmjcddaaGreatDoorW.PrintMore Go.Proofs.YtmfipefpmjcddaaGreatDoor.PB Go.Proofs.YtmfipefpmjcddaaGreatDoor.PL Go.Proofs.YtmfipefpmjcddaaGreatDoor.PG
set_option linter.unusedVariables false
theorem sz_list2 {α : Type} (wt : α → Nat) (l : List α) (rf : List α → Int → α) (hrf : ∀ i (h : i < l.length), rf l (i : Int) = l[i]) (L0 : Nat → List α → Int → Int → Option Int) (F : Nat → List α → Int → Option Int) (e : Nat → α → Int → Option Int)
  (hstep : ∀ k R i, L0 (k + 1) l R i = if i < (l.length : Int) then (if 0 ≤ i then ((e k (rf l i) R).bind fun t => if t < 0 then some (-1) else L0 k l t (wrap64 (i + 1))) else none) else some R)
  (hF : ∀ k R, F k l R = if wrap64 (R - (l.length : Int)) < 0 then some (-1) else L0 k l (wrap64 (R - (l.length : Int))) 0)
  (he : ∀ x ∈ l, ∀ R, 0 ≤ R → R ≤ 1000000000 → Ev (fun k => e k x R) (left R (wt x))) (hl : l.length ≤ 9223372036854775807) (R : Int) (h0 : 0 ≤ R) (h1 : R ≤ 1000000000) :
  Ev (fun k => F k l R) (left R (l.length + wsum wt l)) := by
 have key : ∀ (d i : Nat) (R : Int), i + d = l.length → 0 ≤ R → R ≤ 1000000000 → l.length ≤ 1000000000000 → Ev (fun k => L0 k l R (i : Int)) (left R (wsum wt (l.drop i))) := by
  intro d
  induction d with
  | zero =>
   intro i R hi h0 h1 h2
   rw [List.drop_eq_nil_of_le (by omega)]
   refine Ev.step (f := fun _ => some R) (fun k => by rw [hstep, if_neg (by omega)]) ?_
   refine ev_eq (Ev.now R) ?_
   show R = left R 0
   unfold left
   rw [if_pos (by omega)]; omega
  | succ d ih =>
   intro i R hi h0 h1 h2
   have hlt : i < l.length := by omega
   have hx := he _ (List.getElem_mem hlt) R h0 h1
   rw [List.drop_eq_getElem_cons hlt, show wsum wt (l[i] :: l.drop (i + 1)) = wt l[i] + wsum wt (l.drop (i + 1)) from rfl]
   refine Ev.step (f := fun k => (e k l[i] R).bind fun t => if t < 0 then some (-1) else L0 k l t ((i + 1 : Nat) : Int)) (fun k => ?_) ?_
   ·rw [hstep, if_pos (by omega), if_pos (by omega), hrf i hlt, w64 (x := (i : Int) + 1) (by omega) (by omega)]; rfl
   ·refine ev_bind hx ?_
    by_cases hc : ((wt l[i] : Nat) : Int) ≤ R
    ·rw [left_yes hc]
     refine ev_neg (by omega) ?_
     refine ev_eq (ih (i + 1) (R - wt l[i]) (by omega) (by omega) (by omega) h2) (left_add hc)
    ·rw [left_no hc]
     refine ev_pos (by omega) (ev_eq (Ev.now _) ?_)
     unfold left
     rw [if_neg (by omega)]
 by_cases hc : (l.length : Int) ≤ R
 ·refine Ev.congr (f := fun k => L0 k l (R - l.length) ((0 : Nat) : Int)) (fun k => ?_) ?_
  ·rw [hF, w64 (x := R - (l.length : Int)) (by omega) (by omega), if_neg (by omega)]; rfl
  ·refine ev_eq (key l.length 0 (R - l.length) (by omega) (by omega) (by omega) (by omega)) ?_
   rw [List.drop_zero]; exact left_add hc
 ·refine Ev.congr (f := fun _ => some (-1)) (fun k => ?_) (ev_eq (Ev.now _) ?_)
  ·rw [hF, w64 (x := R - (l.length : Int)) (by omega) (by omega), if_pos (by omega)]
  ·unfold left; rw [if_neg (by omega)]
end Go.Proofs.YtmfipefpmjcddaaGreatDoor.PI
end
section
namespace Go.Proofs.YtmfipefpmjcddaaGreatDoor.Pure
open Go.RowKit Go.Proofs.YtmfipefpmjcddaaGreatDoorW.PrintWords Go.Proofs.YtmfipefpmjcddaaGreatDoorW.PrintLast Go.Proofs.YtmfipefpmjcddaaGreatDoorW.PrintMore Go.Proofs.YtmfipefpmjcddaaGreatDoor.PB Go.Proofs.YtmfipefpmjcddaaGreatDoor.PD Go.Proofs.YtmfipefpmjcddaaGreatDoor.PK Go.Proofs.YtmfipefpmjcddaaGreatDoor.PL Go.Proofs.YtmfipefpmjcddaaGreatDoor.PT Go.Proofs.YtmfipefpmjcddaaGreatDoor.PU Go.Proofs.YtmfipefpmjcddaaGreatDoor.PG Go.Proofs.YtmfipefpmjcddaaGreatDoor.PW Go.Proofs.YtmfipefpmjcddaaGreatDoor.PO Go.Proofs.YtmfipefpmjcddaaGreatDoor.PA
set_option linter.unusedVariables false
theorem rdI_at (l : List S85) (i : Nat) (h : i < l.length) : rd_T85 l (i : Int) = l[i] := by
 simp [rd_T85, List.getD_eq_getElem?_getD, List.getElem?_eq_getElem h]
theorem rdL_at (l : List S78) (i : Nat) (h : i < l.length) : rd_T78 l (i : Int) = l[i] := by
 simp [rd_T78, List.getD_eq_getElem?_getD, List.getElem?_eq_getElem h]
def Sm (x : S85) : Prop := x.f0.length ≤ 2000000 ∧ x.f1.length ≤ 2000000 ∧ x.f2.length ≤ 2000000
def PageOk (x : S85) : Prop := pageOk x.f0 x.f1 x.f2 x.f3
theorem pageDig (x : S85) (h : PageOk x) : ∃ d, Ev (fun k => spec_l6Digest.f k x.f0 x.f1 x.f2 x.f3) d ∧ Ev (fun k => impl_Shown_digest.f k x.f0 x.f1 x.f2 x.f3) d := by
 obtain ⟨r, hr, hz⟩ := bytesS _ _ _ _ h
 exact ⟨dig 103 r, ev_bind hr (ev_bind (digS 103 k103 r (by omega)) (Ev.now _)), ev_bind (Ev.congr (fun k => bytes_eq k _ _ _ _) hr) (ev_bind (digI 103 k103 r (by omega)) (Ev.now _))⟩
def missT : ByteArray × Bool × Bool := (⟨#[]⟩, false, false)
theorem check_two (l : List S85) (key : ByteArray) (hl : l.length ≤ 2000000) (hp : ∀ i (h : i < l.length), PageOk l[i]) : ∀ (d i : Nat) (want : ByteArray), i + d = l.length → 1 ≤ d →
  ∃ r, Ev (fun k => spec_l6Check.l0 k key l want l (l.length : Int) (i : Int)) r ∧ Ev (fun k => impl_CheckKey.l0 k want key l l (l.length : Int) (i : Int)) r := by
 intro d
 induction d with
 | zero => intro i want hi h1; omega
 | succ d ih =>
  intro i want hi _
  have hlt : i < l.length := by omega
  have hok := hp i hlt
  have eq := rdI_at l i hlt
  obtain ⟨D, dS, dI⟩ := pageDig l[i] hok
  obtain ⟨h1, h2, h3, h4, h5, h6, h7⟩ := hok
  have hris : ∀ j, j < l[i].f0.length → risesAt l[i].f0 j := fun j hj => (h3 j hj).2
  obtain ⟨n, lI, hL⟩ := lessI l[i].f0 key (by omega) hris
  have lS := lessS l[i].f0 l[i].f1 l[i].f2 l[i].f3 key n (by omega) hL
  have hn := hL.1
  have wl : wrap64 ((l.length : Int) - 1) = (l.length : Int) - 1 := w64 (by omega) (by omega)
  have wi : wrap64 ((i : Int) + 1) = ((i + 1 : Nat) : Int) := by rw [w64 (by omega) (by omega)]; rfl
  -- whether the key is there
  obtain ⟨b, hb⟩ : ∃ b : Bool, b = decide (n < l[i].f0.length ∧ (tx l[i].f0 n).toList = key.toList) := ⟨_, rfl⟩
  have g1 : (i : Int) < (l.length : Int) := by omega
  have g2 : 0 ≤ (i : Int) := by omega
  have g3 : 0 ≤ (n : Int) := by omega
  -- the reference's first part
  have sS : ∀ {r}, Ev (fun k => spec_l6Check.j1 k key l want (i : Int) (n : Int) b l (l.length : Int) (i : Int) l[i].f0 l[i].f1 l[i].f2 l[i].f3) r → Ev (fun k => spec_l6Check.l0 k key l want l (l.length : Int) (i : Int)) r := by
   intro r hr
   refine Ev.step (f := fun k => (spec_l6Less.f k l[i].f0 l[i].f1 l[i].f2 l[i].f3 key).bind fun t => (if t < (l[i].f0.length : Int) then (if 0 ≤ t then (spec_l6Check.j1 k key l want (i : Int) t ((rdOf ByteArray.empty l[i].f0 t).toList == key.toList) l (l.length : Int) (i : Int) l[i].f0 l[i].f1 l[i].f2 l[i].f3) else (none)) else (spec_l6Check.j1 k key l want (i : Int) t false l (l.length : Int) (i : Int) l[i].f0 l[i].f1 l[i].f2 l[i].f3))) (fun k => ?_) ?_
   ·simp only [spec_l6Check.l0]
    rw [if_pos g1, if_pos g2, if_pos g1, eq]
   ·refine ev_bind lS ?_
    by_cases c : n < l[i].f0.length
    ·refine ev_pos (by omega) (ev_pos g3 ?_)
     have e : ((rdOf ByteArray.empty l[i].f0 (n : Int)).toList == key.toList) = b := by
      rw [hb]
      by_cases e : (tx l[i].f0 n).toList = key.toList
      ·rw [decide_eq_true ⟨c, e⟩]; exact beq_iff_eq.mpr e
      ·rw [decide_eq_false (fun h => e h.2)]; exact beq_eq_false_iff_ne.mpr e
     rw [e]; exact hr
    ·refine ev_neg (by omega) ?_
     have e : false = b := by rw [hb, decide_eq_false (fun h => c h.1)]
     rw [e]; exact hr
  obtain ⟨b2, hb2⟩ : ∃ b2 : Bool, b2 = decide (l[i].f3 < (l[i].f0.length : Int) ∧ (rdOf ByteArray.empty l[i].f0 l[i].f3).toList = key.toList) := ⟨_, rfl⟩
  have hat : impl_hasAt.f l[i].f0 l[i].f3 key = some b2 := by
   unfold impl_hasAt.f
   by_cases c : l[i].f3 < (l[i].f0.length : Int)
   ·rw [if_pos c, if_pos h7.1, hb2]
    by_cases e : (rdOf ByteArray.empty l[i].f0 l[i].f3).toList = key.toList
    ·rw [decide_eq_true ⟨c, e⟩]; exact congrArg some (beq_iff_eq.mpr e)
    ·rw [decide_eq_false (fun h => e h.2)]; exact congrArg some (beq_eq_false_iff_ne.mpr e)
   ·rw [if_neg c, hb2, decide_eq_false (fun h => c h.1)]
  have sI : ∀ {r}, Ev (fun k => (if D.toList = want.toList then (impl_CheckKey.j2 k key l (i : Int) b2 l (l.length : Int) (i : Int) (l[i].f3 != (n : Int)) l[i].f0 l[i].f1 l[i].f2 l[i].f3) else (impl_CheckKey.j2 k key l (i : Int) b2 l (l.length : Int) (i : Int) true l[i].f0 l[i].f1 l[i].f2 l[i].f3))) r → Ev (fun k => impl_CheckKey.l0 k want key l l (l.length : Int) (i : Int)) r := by
   intro r hr
   refine Ev.step (f := fun k => (impl_Shown_digest.f k l[i].f0 l[i].f1 l[i].f2 l[i].f3).bind fun t => (if t.toList = want.toList then ((impl_less.f k l[i].f0 key).bind fun u => (impl_CheckKey.j2 k key l (i : Int) b2 l (l.length : Int) (i : Int) (l[i].f3 != u) l[i].f0 l[i].f1 l[i].f2 l[i].f3)) else (impl_CheckKey.j2 k key l (i : Int) b2 l (l.length : Int) (i : Int) true l[i].f0 l[i].f1 l[i].f2 l[i].f3))) (fun k => ?_) ?_
   ·simp only [impl_CheckKey.l0]
    rw [if_pos g1, if_pos g2, if_pos g1, eq, hat]
    rfl
   ·refine ev_bind dI ?_
    by_cases c : D.toList = want.toList
    ·refine ev_pos c (ev_bind lI ?_)
     simp only [if_pos c] at hr
     exact hr
    ·simp only [if_neg c] at hr
     exact ev_neg c hr
  have noI : Ev (fun k => impl_CheckKey.j2 k key l (i : Int) b2 l (l.length : Int) (i : Int) true l[i].f0 l[i].f1 l[i].f2 l[i].f3) missT := Ev.step (f := fun _ => some missT) (fun k => by simp only [impl_CheckKey.j2]; rw [if_pos trivial]; rfl) (Ev.now _)
  have noS : ∀ la, Ev (fun k => spec_l6Check.j2 k key l want (n : Int) b la l (l.length : Int) (i : Int) true l[i].f0 l[i].f1 l[i].f2 l[i].f3) missT := fun la => Ev.step (f := fun _ => some missT) (fun k => by simp only [spec_l6Check.j2]; rw [if_pos trivial]; rfl) (Ev.now _)
  have jS : ∀ {r}, Ev (fun k => (if D.toList = want.toList then (if l[i].f3 = (n : Int) then (if ((i : Int) == (l.length : Int) - 1) = true then (if b = true then (spec_l6Check.j2 k key l want (n : Int) b ((i : Int) == (l.length : Int) - 1) l (l.length : Int) (i : Int) false l[i].f0 l[i].f1 l[i].f2 l[i].f3) else (spec_l6Check.j2 k key l want (n : Int) b ((i : Int) == (l.length : Int) - 1) l (l.length : Int) (i : Int) (decide ((l[i].f2.length : Int) > 0)) l[i].f0 l[i].f1 l[i].f2 l[i].f3)) else (if b = true then (spec_l6Check.j2 k key l want (n : Int) b ((i : Int) == (l.length : Int) - 1) l (l.length : Int) (i : Int) true l[i].f0 l[i].f1 l[i].f2 l[i].f3) else (if (l[i].f2.length : Int) = 0 then (spec_l6Check.j2 k key l want (n : Int) b ((i : Int) == (l.length : Int) - 1) l (l.length : Int) (i : Int) true l[i].f0 l[i].f1 l[i].f2 l[i].f3) else (spec_l6Check.j2 k key l want (n : Int) b ((i : Int) == (l.length : Int) - 1) l (l.length : Int) (i : Int) false l[i].f0 l[i].f1 l[i].f2 l[i].f3)))) else (spec_l6Check.j2 k key l want (n : Int) b ((i : Int) == (l.length : Int) - 1) l (l.length : Int) (i : Int) true l[i].f0 l[i].f1 l[i].f2 l[i].f3)) else (spec_l6Check.j2 k key l want (n : Int) b ((i : Int) == (l.length : Int) - 1) l (l.length : Int) (i : Int) true l[i].f0 l[i].f1 l[i].f2 l[i].f3))) r → Ev (fun k => spec_l6Check.l0 k key l want l (l.length : Int) (i : Int)) r := by
   intro r hr
   refine sS (Ev.step (f := fun k => _) (fun k => by simp only [spec_l6Check.j1]; rw [wl]) ?_)
   exact ev_bind dS hr
  by_cases c1 : D.toList = want.toList
  ·by_cases c2 : l[i].f3 = (n : Int)
   ·have eb : b2 = b := by
     rw [hb2, hb, c2]
     by_cases e : n < l[i].f0.length ∧ (tx l[i].f0 n).toList = key.toList
     ·rw [decide_eq_true e]; exact decide_eq_true ⟨by omega, e.2⟩
     ·rw [decide_eq_false e]; exact decide_eq_false (fun h => e ⟨by omega, h.2⟩)
    have eg : (l[i].f3 != (n : Int)) = false := bne_eq_false_iff_eq.mpr c2
    have sI2 : ∀ {r}, Ev (fun k => (if (i : Int) = (l.length : Int) - 1 then (impl_CheckKey.j3 k key l (i : Int) b l (l.length : Int) (i : Int) b l[i].f0 l[i].f1 l[i].f2 l[i].f3) else (impl_CheckKey.j3 k key l (i : Int) b l (l.length : Int) (i : Int) false l[i].f0 l[i].f1 l[i].f2 l[i].f3))) r → Ev (fun k => impl_CheckKey.l0 k want key l l (l.length : Int) (i : Int)) r := by
     intro r hr
     refine sI (ev_pos c1 ?_)
     rw [eb, eg]
     refine Ev.step (f := fun k => _) (fun k => by simp only [impl_CheckKey.j2]; rw [if_neg (by simp), wl]) ?_
     exact hr
    by_cases c3 : (i : Int) = (l.length : Int) - 1
    ·have e3 : ((i : Int) == (l.length : Int) - 1) = true := beq_iff_eq.mpr c3
     cases b with
     | true =>
      have hin := of_decide_eq_true hb.symm
      have hv : (n : Int) < (l[i].f1.length : Int) := by omega
      refine ⟨(rdOf ByteArray.empty l[i].f1 (n : Int), true, true), jS (ev_pos c1 (ev_pos c2 (ev_pos e3 (ev_pos rfl ?_)))), sI2 (ev_pos c3 ?_)⟩
      ·rw [e3]
       refine Ev.step (f := fun k => spec_l6Check.j3 k key l want (n : Int) true l (l.length : Int) (i : Int) true l[i].f0 l[i].f1 l[i].f2 l[i].f3) (fun k => by simp only [spec_l6Check.j2]; rw [if_neg (by simp), if_pos trivial]) ?_
       exact Ev.step (f := fun k => some (rdOf ByteArray.empty l[i].f1 (n : Int), true, true)) (fun k => by simp only [spec_l6Check.j3]; rw [if_pos trivial, if_pos g3, if_pos hv]) (Ev.now _)
      ·rw [c2]
       exact Ev.step (f := fun k => some (rdOf ByteArray.empty l[i].f1 (n : Int), true, true)) (fun k => by simp only [impl_CheckKey.j3]; rw [if_pos trivial, if_pos g3, if_pos hv]) (Ev.now _)
     | false =>
      have iI : Ev (fun k => impl_CheckKey.j3 k key l (i : Int) false l (l.length : Int) (i : Int) false l[i].f0 l[i].f1 l[i].f2 l[i].f3) (⟨#[]⟩, false, ((l[i].f2.length : Int) == 0)) :=
       Ev.step (f := fun k => some (⟨#[]⟩, false, ((l[i].f2.length : Int) == 0))) (fun k => by simp only [impl_CheckKey.j3]; rw [if_neg (by simp), wl, if_pos c3]) (Ev.now _)
      by_cases c4 : (l[i].f2.length : Int) > 0
      ·refine ⟨missT, jS (ev_pos c1 (ev_pos c2 (ev_pos e3 (ev_neg (by simp) ?_)))), sI2 (ev_pos c3 (ev_eq iI ?_))⟩
       ·rw [decide_eq_true c4]; exact noS _
       ·have : ((l[i].f2.length : Int) == 0) = false := beq_eq_false_iff_ne.mpr (by omega)
        rw [this]; rfl
      ·refine ⟨(⟨#[]⟩, false, true), jS (ev_pos c1 (ev_pos c2 (ev_pos e3 (ev_neg (by simp) ?_)))), sI2 (ev_pos c3 (ev_eq iI ?_))⟩
       ·rw [decide_eq_false c4, e3]
        refine Ev.step (f := fun k => spec_l6Check.j3 k key l want (n : Int) true l (l.length : Int) (i : Int) false l[i].f0 l[i].f1 l[i].f2 l[i].f3) (fun k => by simp only [spec_l6Check.j2]; rw [if_neg (by simp), if_pos trivial]) ?_
        refine Ev.step (f := fun k => spec_l6Check.l0 k key l want l (l.length : Int) ((i + 1 : Nat) : Int)) (fun k => by simp only [spec_l6Check.j3]; rw [if_neg (by simp), if_pos trivial, wi]) ?_
        exact Ev.step (f := fun k => some (⟨#[]⟩, false, true)) (fun k => by simp only [spec_l6Check.l0]; rw [if_neg (by omega)]) (Ev.now _)
       ·have : ((l[i].f2.length : Int) == 0) = true := beq_iff_eq.mpr (by omega)
        rw [this]
    ·have e3 : ((i : Int) == (l.length : Int) - 1) = false := beq_eq_false_iff_ne.mpr c3
     have n3 : ¬ ((i : Int) == (l.length : Int) - 1) = true := by rw [e3]; simp
     cases b with
     | true =>
      refine ⟨missT, jS (ev_pos c1 (ev_pos c2 (ev_neg n3 (ev_pos rfl (noS _))))), sI2 (ev_neg c3 ?_)⟩
      exact Ev.step (f := fun k => some missT) (fun k => by simp only [impl_CheckKey.j3]; rw [if_neg (by simp), wl, if_neg c3, if_pos trivial]; rfl) (Ev.now _)
     | false =>
      by_cases c4 : (l[i].f2.length : Int) = 0
      ·refine ⟨missT, jS (ev_pos c1 (ev_pos c2 (ev_neg n3 (ev_neg (by simp) (ev_pos c4 (noS _)))))), sI2 (ev_neg c3 ?_)⟩
       exact Ev.step (f := fun k => some missT) (fun k => by simp only [impl_CheckKey.j3]; rw [if_neg (by simp), wl, if_neg c3, if_neg (by simp), if_pos c4]; rfl) (Ev.now _)
      ·have hk : (n : Int) < (l[i].f2.length : Int) := by omega
       obtain ⟨r, r1, r2⟩ := ih (i + 1) (rdOf ByteArray.empty l[i].f2 (n : Int)) (by omega) (by omega)
       refine ⟨r, jS (ev_pos c1 (ev_pos c2 (ev_neg n3 (ev_neg (by simp) (ev_neg c4 ?_))))), sI2 (ev_neg c3 ?_)⟩
       ·rw [e3]
        refine Ev.step (f := fun k => spec_l6Check.j3 k key l want (n : Int) false l (l.length : Int) (i : Int) false l[i].f0 l[i].f1 l[i].f2 l[i].f3) (fun k => by simp only [spec_l6Check.j2]; rw [if_neg (by simp), if_neg (by simp)]) ?_
        exact Ev.step (f := fun k => spec_l6Check.l0 k key l (rdOf ByteArray.empty l[i].f2 (n : Int)) l (l.length : Int) ((i + 1 : Nat) : Int)) (fun k => by simp only [spec_l6Check.j3]; rw [if_neg (by simp), if_neg (by simp), if_pos g3, if_pos hk, wi]) r1
       ·rw [c2]
        exact Ev.step (f := fun k => impl_CheckKey.l0 k (rdOf ByteArray.empty l[i].f2 (n : Int)) key l l (l.length : Int) ((i + 1 : Nat) : Int)) (fun k => by simp only [impl_CheckKey.j3]; rw [if_neg (by simp), wl, if_neg c3, if_neg (by simp), if_neg c4, if_pos g3, if_pos hk, wi]) r2
   ·refine ⟨missT, jS (ev_pos c1 (ev_neg c2 (noS _))), sI (ev_pos c1 ?_)⟩
    rw [show (l[i].f3 != (n : Int)) = true from bne_iff_ne.mpr c2]
    exact noI
  ·exact ⟨missT, jS (ev_neg c1 (noS _)), sI (ev_neg c1 noI)⟩
theorem good_two (x : S85) (h : Sm x) : Ev (fun k => spec_GoodShown.f k x.f0 x.f1 x.f2 x.f3) (ch (PageOk x)) ∧ Ev (fun k => impl_GoodShown.f k x.f0 x.f1 x.f2 x.f3) (ch (PageOk x)) :=
 ⟨goodShownS _ _ _ _ h.1 h.2.1 h.2.2, goodShownI _ _ _ _ h.1 h.2.1 h.2.2⟩
theorem has_bad (l : List S85) (hl : l.length ≤ 2000000) (hs : ∀ x ∈ l, Sm x) : Ev (fun k => slices_ContainsFunc_impl_CheckKey_1.f k l) (l.any fun x => !ch (PageOk x)) := by
 obtain ⟨r, hr, e⟩ := idx_any l rd_T85 (fun i h => rdI_at l i h) slices_IndexFunc_impl_CheckKey_1.l0 (fun k x => impl_CheckKey_1.f k x.f0 x.f1 x.f2 x.f3) (fun x => !ch (PageOk x)) (fun k n i => rfl) (fun x hx => ev_bind (f := fun _ t => some (!t)) (good_two x (hs x hx)).2 (Ev.now _)) (by omega)
 rw [← e]
 exact ev_bind (f := fun _ t => some (decide (t ≥ 0))) hr (Ev.now _)
theorem checkKey_two (a : ByteArray) (key : ByteArray) (l : List S85) (hl : l.length ≤ 2000000) (hs : ∀ x ∈ l, Sm x) : ∃ r, Ev (fun k => spec_CheckKey.f k a key l) r ∧ Ev (fun k => impl_CheckKey.f k a key l) r := by
 have round : ∀ (r : ByteArray × Bool × Bool) i, i < l.length → PageOk (rd_T85 l (i : Int)) → Ev (fun k => spec_CheckKey.l0 k a key l l (l.length : Int) ((i + 1 : Nat) : Int)) r → Ev (fun k => spec_CheckKey.l0 k a key l l (l.length : Int) (i : Int)) r := by
  intro r i hi hq h
  have hg := (good_two (rd_T85 l (i : Int)) (by rw [rdI_at l i hi]; exact hs _ (List.getElem_mem hi))).1
  rw [ch_yes hq] at hg
  refine Ev.step (f := fun k => _) (fun k => by simp only [spec_CheckKey.l0]; rw [if_pos (by omega), if_pos (by omega), if_pos (by omega), w64 (x := (i : Int) + 1) (by omega) (by omega)]) ?_
  exact ev_bind hg (ev_pos rfl h)
 have yI : Ev (fun k => impl_CheckKey.j0 k a key l true) missT := Ev.step (f := fun _ => some missT) (fun k => by simp only [impl_CheckKey.j0]; rw [if_pos trivial]; rfl) (Ev.now _)
 have hbad := has_bad l hl hs
 by_cases hA : ∀ i, i < l.length → PageOk (rd_T85 l (i : Int))
 ·have hp : ∀ i (h : i < l.length), PageOk l[i] := fun i h => by have := hA i h; rw [rdI_at l i h] at this; exact this
  have ea : (l.any fun x => !ch (PageOk x)) = false := by
   rw [List.any_eq_false]
   intro x hx
   obtain ⟨j, hj, e⟩ := List.getElem_of_mem hx
   rw [← e, ch_yes (hp j hj)]; simp
  rw [ea] at hbad
  have fin : ∀ r, Ev (fun k => if (a.size : Int) = 4 then ((spec_l5Pair.f key (⟨#[]⟩ : ByteArray)).bind fun t333 => (if t333 = true then ((spec_l1In.f (l.length : Int) 1 10).bind fun t334 => (if t334 = true then ((spec_l6Check.f k a key l).bind fun bt335 => (some (bt335.1, bt335.2.1, bt335.2.2))) else (some ((⟨#[]⟩ : ByteArray), false, false)))) else (some ((⟨#[]⟩ : ByteArray), false, false)))) else (some ((⟨#[]⟩ : ByteArray), false, false))) r → Ev (fun k => spec_CheckKey.f k a key l) r := fun r hr =>
   loop_yes l.length (fun i k => spec_CheckKey.l0 k a key l l (l.length : Int) (i : Int)) _ r round (Ev.step (fun k => by simp only [spec_CheckKey.l0]; rw [if_neg (by omega)]) hr) hA
  by_cases c1 : a.size = 4
  ·cases c2 : keyB key with
   | false =>
    have e : (keyB key && valB (⟨#[]⟩ : ByteArray)) = false := by rw [c2]; rfl
    exact ⟨missT, fin _ (ev_pos (by omega) (ev_const (pairS key ⟨#[]⟩) (ev_neg (by simp [e]) (Ev.now _)))), ev_const (isDigI a) (ev_pos (decide_eq_true c1) (ev_const (keyI key) (ev_neg (by simp [c2]) yI)))⟩
   | true =>
    have e : (keyB key && valB (⟨#[]⟩ : ByteArray)) = true := by rw [c2]; rfl
    by_cases c3 : 1 ≤ (l.length : Int) ∧ (l.length : Int) ≤ 10
    ·obtain ⟨⟨x, y, z⟩, h1, h2⟩ := check_two l key hl hp l.length 0 a (by omega) (by omega)
     have h1' : Ev (fun k => spec_l6Check.f k a key l) (x, y, z) := h1
     refine ⟨(x, y, z), fin _ (ev_pos (by omega) (ev_const (pairS key ⟨#[]⟩) (ev_pos e (ev_const (inS _ _ _) (ev_pos (decide_eq_true c3) (ev_bind h1' (Ev.now _))))))), ev_const (isDigI a) (ev_pos (decide_eq_true c1) (ev_const (keyI key) (ev_pos c2 (ev_const (inI _ _ _) (ev_pos (decide_eq_true c3) (ev_bind hbad ?_))))))⟩
     exact Ev.step (f := fun k => impl_CheckKey.l0 k a key l l (l.length : Int) ((0 : Nat) : Int)) (fun k => by simp only [impl_CheckKey.j0]; rw [if_neg (by simp)]; rfl) h2
    ·exact ⟨missT, fin _ (ev_pos (by omega) (ev_const (pairS key ⟨#[]⟩) (ev_pos e (ev_const (inS _ _ _) (ev_neg (by simpa using c3) (Ev.now _)))))), ev_const (isDigI a) (ev_pos (decide_eq_true c1) (ev_const (keyI key) (ev_pos c2 (ev_const (inI _ _ _) (ev_neg (by simpa using c3) yI)))))⟩
  ·exact ⟨missT, fin _ (ev_neg (by omega) (Ev.now _)), ev_const (isDigI a) (ev_neg (by simp [c1]) yI)⟩
 ·have ea : (l.any fun x => !ch (PageOk x)) = true := by
   cases h : l.any fun x => !ch (PageOk x) with
   | true => rfl
   | false =>
    refine absurd (fun i hi => ?_) hA
    rw [List.any_eq_false] at h
    have := h _ (List.getElem_mem hi)
    rw [rdI_at l i hi]
    exact ch_true (by simpa using this)
  rw [ea] at hbad
  refine ⟨missT, loop_no l.length (fun i k => spec_CheckKey.l0 k a key l l (l.length : Int) (i : Int)) _ missT round (fun i hi hq => ?_) hA, ?_⟩
  ·have hg := (good_two (rd_T85 l (i : Int)) (by rw [rdI_at l i hi]; exact hs _ (List.getElem_mem hi))).1
   rw [ch_no hq] at hg
   refine Ev.step (f := fun k => _) (fun k => by simp only [spec_CheckKey.l0]; rw [if_pos (by omega), if_pos (by omega), if_pos (by omega)]) ?_
   exact ev_bind hg (ev_neg (by simp) (Ev.now _))
  ·refine ev_const (isDigI a) ?_
   by_cases c1 : a.size = 4
   ·refine ev_pos (decide_eq_true c1) (ev_const (keyI key) ?_)
    cases c2 : keyB key with
    | false => exact ev_neg (by simp) yI
    | true =>
     refine ev_pos rfl (ev_const (inI _ _ _) ?_)
     by_cases c3 : 1 ≤ (l.length : Int) ∧ (l.length : Int) ≤ 10
     ·exact ev_pos (decide_eq_true c3) (ev_bind hbad yI)
     ·exact ev_neg (by simpa using c3) yI
   ·exact ev_neg (by simp [c1]) yI
def wtP (x : S78) : Nat := total x.f0 + (total x.f1 + total x.f2)
def FitP (x : S78) : Prop := Fit x.f0 ∧ Fit x.f1 ∧ Fit x.f2
def convP (x : S78) : S85 := ⟨x.f0, x.f1, x.f2, x.f3⟩
theorem szPages (l : List S78) (hf : l.length ≤ 9223372036854775807 ∧ ∀ x ∈ l, FitP x) (R : Int) (h0 : 0 ≤ R) (h1 : R ≤ 1000000000) : Ev (fun k => laws_szShownS.f k l R) (left R (l.length + wsum wtP l)) :=
 PI.sz_list2 wtP l rd_T78 (fun i h => rdL_at l i h) laws_szShownS.l0 laws_szShownS.f (fun k x R => laws_szShown.f k x.f0 x.f1 x.f2 x.f3 R) (fun k R i => rfl) (fun k R => rfl)
  (fun x hx R h0 h1 => szShown _ _ _ _ (hf.2 x hx).1 (hf.2 x hx).2.1 (hf.2 x hx).2.2 R h0 h1) hf.1 R h0 h1
theorem small_pages (l : List S78) (h : l.length + wsum wtP l ≤ 1048576) : ∀ x ∈ l, x.f0.length ≤ 2000000 ∧ x.f1.length ≤ 2000000 ∧ x.f2.length ≤ 2000000 := by
 intro x hx
 have h1 := wsum_mem wtP l x hx
 have h2 : wtP x = (x.f0.length + szL x.f0) + ((x.f1.length + szL x.f1) + (x.f2.length + szL x.f2)) := rfl
 exact ⟨by omega, by omega, by omega⟩
theorem toPages (l : List S78) (hl : l.length ≤ 2000000) (hs : ∀ x ∈ l, x.f0.length ≤ 2000000 ∧ x.f1.length ≤ 2000000 ∧ x.f2.length ≤ 2000000) : Ev (fun k => laws_toShownS.f k l) (l.map convP) := by
 refine Ev.congr (f := fun k => laws_toShownS.l0 k l (List.replicate l.length z85) 0) (fun k => ?_) (to_list convP z85 l laws_toShownS.l0 hl (fun k out => ?_) (fun i h out ho r hr => ?_))
 ·simp only [laws_toShownS.f]
  rw [if_pos (by omega), if_pos (by omega)]
  rfl
 ·simp only [laws_toShownS.l0]; rw [if_neg (by omega)]
 ·have hx := hs _ (List.getElem_mem h)
  refine Ev.step (f := fun k => (laws_toShown.f k l[i].f0 l[i].f1 l[i].f2 l[i].f3).bind fun b => laws_toShownS.l0 k l (out.set i (⟨b.1, b.2.1, b.2.2.1, b.2.2.2⟩ : S85)) ((i + 1 : Nat) : Int)) (fun k => ?_) (ev_bind (toShown _ _ _ _ hx.1 hx.2.1 hx.2.2) hr)
  simp only [laws_toShownS.l0]
  rw [if_pos (by omega), if_pos (by omega), rdL_at l i h, w64 (x := (i : Int) + 1) (by omega) (by omega)]
  congr 1
  funext b
  rw [if_pos (by omega)]
  rfl
theorem eqPages (l : List S85) (hl : l.length ≤ 2000000) (hs : ∀ x ∈ l, Sm x) : Ev (fun k => laws_eqShownS.f k l l) true := by
 refine eq_list l laws_eqShownS.l0 laws_eqShownS.f (fun k => ?_) (fun k => ?_) (fun i h hr => ?_)
 ·simp only [laws_eqShownS.l0]; rw [if_neg (by omega)]
 ·simp only [laws_eqShownS.f]; rw [if_pos trivial]
 ·have hx := hs _ (List.getElem_mem h)
  refine Ev.step (f := fun k => (laws_eqShown.f k l[i].f0 l[i].f1 l[i].f2 l[i].f3 l[i].f0 l[i].f1 l[i].f2 l[i].f3).bind fun t => if t = true then laws_eqShownS.l0 k l l ((i + 1 : Nat) : Int) else some false) (fun k => ?_) (ev_bind (eqShown _ _ _ _ hx.1 hx.2.1 hx.2.2) (ev_pos rfl hr))
  simp only [laws_eqShownS.l0]
  rw [if_pos (by omega), if_pos (by omega), if_pos (by omega), rdI_at l i h, w64 (x := (i : Int) + 1) (by omega) (by omega)]
  rfl
end Go.Proofs.YtmfipefpmjcddaaGreatDoor.Pure
end
section
namespace Go.Proofs.YtmfipefpmjcddaaGreatDoor.Pure
open Go.RowKit Go.Proofs.YtmfipefpmjcddaaGreatDoorW.PrintWords Go.Proofs.YtmfipefpmjcddaaGreatDoorW.PrintLast Go.Proofs.YtmfipefpmjcddaaGreatDoorW.PrintMore Go.Proofs.YtmfipefpmjcddaaGreatDoor.PB Go.Proofs.YtmfipefpmjcddaaGreatDoor.PL Go.Proofs.YtmfipefpmjcddaaGreatDoor.PG Go.Proofs.YtmfipefpmjcddaaGreatDoor.PX Go.Proofs.YtmfipefpmjcddaaGreatDoor.QT Go.Proofs.YtmfipefpmjcddaaGreatDoor.PA
set_option linter.unusedVariables false
theorem seal_j {top text : ByteArray} {b : Bool} {n : Int} {sg way : List ByteArray} {r : Bool × Bool} : ∀ k, spec_CheckSeal.j0 k top text b n sg way = some r → r.1 = true → r.2 = true := by
 intro k h h1
 cases k with
 | zero => simp [spec_CheckSeal.j0] at h
 | succ k =>
  simp only [spec_CheckSeal.j0] at h
  by_cases hb : b = true
  ·rw [if_pos hb] at h; injection h with h; subst h; cases h1
  ·rw [if_neg hb] at h
   obtain ⟨x, _, h⟩ := Option.bind_eq_some_iff.1 h
   obtain ⟨y, _, h⟩ := Option.bind_eq_some_iff.1 h
   injection h with h; subst h; rfl
theorem seal_ok {top text : ByteArray} {n : Int} {sg way : List ByteArray} {r : Bool × Bool} (h : Ev (fun k => spec_CheckSeal.f k top text n sg way) r) (h1 : r.1 = true) : r.2 = true := by
 obtain ⟨k, h⟩ := h.rounds
 unfold spec_CheckSeal.f at h
 by_cases c0 : (top.size : Int) = 4
 ·rw [if_pos c0] at h
  obtain ⟨x, _, h⟩ := Option.bind_eq_some_iff.1 h
  by_cases c1 : x = true
  ·rw [if_pos c1] at h
   obtain ⟨y, _, h⟩ := Option.bind_eq_some_iff.1 h
   exact seal_j k h h1
  ·rw [if_neg c1] at h; exact seal_j k h h1
 ·rw [if_neg c0] at h; exact seal_j k h h1
theorem checkAnswer_two (top key : ByteArray) (no : Int) (p q : ByteArray) (it : List ByteArray) (n : Int) (sg up : List ByteArray) (way : List S85) (hi : it.length ≤ 2000000) (hs : sg.length ≤ 2000000) (hu : up.length ≤ 2000000) (hw : way.length ≤ 2000000) (hsm : ∀ x ∈ way, Sm x) :
  ∃ r, Ev (fun k => spec_CheckAnswer.f k top key no p q it n sg up way) r ∧ Ev (fun k => impl_CheckAnswer.f k top key no p q it n sg up way) r := by
 have tS := sealedS no p q it hi
 have tI := sealedI no p q it hi
 obtain ⟨⟨s1, s2⟩, cS, cI⟩ := checkSeal_two top (sealedM no p q it).1 n sg up hs hu
 obtain ⟨⟨k1, k2, k3⟩, kS, kI⟩ := checkKey_two q key way hw hsm
 have hok := seal_ok cS
 have nS : Ev (fun k => spec_CheckAnswer.j0 k top key (sealedM no p q it).1 true no p q it n sg up way) (⟨#[]⟩, false, false) := Ev.step (f := fun _ => some (⟨#[]⟩, false, false)) (fun k => by simp only [spec_CheckAnswer.j0]; rw [if_pos trivial]) (Ev.now _)
 have nI : Ev (fun k => impl_CheckAnswer.j0 k top key (sealedM no p q it).1 true no p q it n sg up way) (⟨#[]⟩, false, false) := Ev.step (f := fun _ => some (⟨#[]⟩, false, false)) (fun k => by simp only [impl_CheckAnswer.j0]; rw [if_pos trivial]) (Ev.now _)
 cases h : (sealedM no p q it).2 with
 | false => exact ⟨_, ev_bind tS (ev_neg (by rw [h]; simp) nS), ev_bind tI (ev_neg (by rw [h]; simp) nI)⟩
 | true =>
  cases h2 : n != no with
  | true => exact ⟨_, ev_bind tS (ev_pos h (by rw [h2]; exact nS)), ev_bind tI (ev_pos h (by rw [h2]; exact nI))⟩
  | false =>
   cases s1 with
   | false =>
    refine ⟨(⟨#[]⟩, false, false), ev_bind tS (ev_pos h ?_), ev_bind tI (ev_pos h ?_)⟩
    ·rw [h2]
     refine Ev.step (f := fun k => (spec_CheckSeal.f k top (sealedM no p q it).1 n sg up).bind fun t => if t.2 = true then (if t.1 = true then ((spec_CheckKey.f k q key way).bind fun u => some (u.1, u.2.1, u.2.2)) else some (⟨#[]⟩, false, false)) else some (⟨#[]⟩, false, false)) (fun k => by simp only [spec_CheckAnswer.j0]; rw [if_neg (by simp)]) (ev_bind cS ?_)
     cases s2 with
     | true => exact ev_pos rfl (ev_neg (by simp) (Ev.now _))
     | false => exact ev_neg (by simp) (Ev.now _)
    ·rw [h2]
     exact Ev.step (f := fun k => (impl_CheckSeal.f k top (sealedM no p q it).1 n sg up).bind fun t => if t.1 = true then ((impl_CheckKey.f k q key way).bind fun u => some (u.1, u.2.1, u.2.2)) else some (⟨#[]⟩, false, false)) (fun k => by simp only [impl_CheckAnswer.j0]; rw [if_neg (by simp)]) (ev_bind cI (ev_neg (by simp) (Ev.now _)))
   | true =>
    refine ⟨(k1, k2, k3), ev_bind tS (ev_pos h ?_), ev_bind tI (ev_pos h ?_)⟩
    ·rw [h2]
     exact Ev.step (f := fun k => (spec_CheckSeal.f k top (sealedM no p q it).1 n sg up).bind fun t => if t.2 = true then (if t.1 = true then ((spec_CheckKey.f k q key way).bind fun u => some (u.1, u.2.1, u.2.2)) else some (⟨#[]⟩, false, false)) else some (⟨#[]⟩, false, false)) (fun k => by simp only [spec_CheckAnswer.j0]; rw [if_neg (by simp)]) (ev_bind cS (ev_pos (hok rfl) (ev_pos rfl (ev_bind kS (Ev.now _)))))
    ·rw [h2]
     exact Ev.step (f := fun k => (impl_CheckSeal.f k top (sealedM no p q it).1 n sg up).bind fun t => if t.1 = true then ((impl_CheckKey.f k q key way).bind fun u => some (u.1, u.2.1, u.2.2)) else some (⟨#[]⟩, false, false)) (fun k => by simp only [impl_CheckAnswer.j0]; rw [if_neg (by simp)]) (ev_bind cI (ev_pos rfl (ev_bind kI (Ev.now _))))
theorem FnExactCheckAnswer (top key : ByteArray) (no : Int) (p q : ByteArray) (it : List ByteArray) (n : Int) (sg up : List ByteArray) (way : List S78) (h0 : top.size ≤ maxLen) (h1 : key.size ≤ maxLen)
  (hf : (Lit.int .i64 no).wf = true ∧ (p.size ≤ maxLen ∧ q.size ≤ maxLen ∧ (it.length ≤ maxLen ∧ ∀ s ∈ it, s.size ≤ maxLen)) ∧ ((Lit.int .i64 n).wf = true ∧ (sg.length ≤ maxLen ∧ ∀ s ∈ sg, s.size ≤ maxLen) ∧ (up.length ≤ maxLen ∧ ∀ s ∈ up, s.size ≤ maxLen)) ∧ (way.length ≤ maxLen ∧ ∀ x ∈ way, (x.f0.length ≤ maxLen ∧ ∀ s ∈ x.f0, s.size ≤ maxLen) ∧ (x.f1.length ≤ maxLen ∧ ∀ s ∈ x.f1, s.size ≤ maxLen) ∧ (x.f2.length ≤ maxLen ∧ ∀ s ∈ x.f2, s.size ≤ maxLen) ∧ (Lit.int .i64 x.f3).wf = true)) :
  ∃ k, laws_FnExactCheckAnswer.f k top key no p q it n sg up way = some true := by
 refine Ev.rounds ?_
 unfold laws_FnExactCheckAnswer.f
 by_cases c0 : (top.size : Int) > 1048576
 ·exact ev_pos c0 (Ev.now _)
 refine ev_neg c0 ?_
 by_cases c1 : (key.size : Int) > 1048576
 ·exact ev_pos c1 (Ev.now _)
 refine ev_neg c1 ?_
 obtain ⟨_, ⟨hp, hq, hit⟩, ⟨_, hsg, hup⟩, hway⟩ := hf
 have z1 := szBlock p q it hp hq hit 1048576 (by omega) (by omega)
 by_cases c2 : ((p.size + q.size + total it : Nat) : Int) ≤ 1048576
 ·rw [left_yes c2] at z1
  have z2 := szSeal n sg up hsg hup (1048576 - ((p.size + q.size + total it : Nat) : Int)) (by omega) (by omega)
  by_cases c3 : ((total sg + total up : Nat) : Int) ≤ 1048576 - ((p.size + q.size + total it : Nat) : Int)
  ·rw [left_yes c3] at z2
   have z3 := szPages way ⟨hway.1, fun x hx => ⟨(hway.2 x hx).1, (hway.2 x hx).2.1, (hway.2 x hx).2.2.1⟩⟩ (1048576 - ((p.size + q.size + total it : Nat) : Int) - ((total sg + total up : Nat) : Int)) (by omega) (by omega)
   by_cases c4 : ((way.length + wsum wtP way : Nat) : Int) ≤ 1048576 - ((p.size + q.size + total it : Nat) : Int) - ((total sg + total up : Nat) : Int)
   ·rw [left_yes c4] at z3
    have hz : Ev (fun k => laws_szAnswer.f k no p q it n sg up way 1048576) (1048576 - ((p.size + q.size + total it : Nat) : Int) - ((total sg + total up : Nat) : Int) - ((way.length + wsum wtP way : Nat) : Int)) :=
     ev_bind z1 (ev_neg (by omega) (ev_bind z2 (ev_neg (by omega) (ev_bind z3 (ev_neg (by omega) (Ev.now _))))))
    have hi : it.length ≤ 2000000 := by unfold total at c2; omega
    have hs : sg.length ≤ 2000000 := by unfold total at c3; omega
    have hu : up.length ≤ 2000000 := by unfold total at c3; omega
    have hw : way.length ≤ 2000000 := by omega
    have hsm := small_pages way (by omega)
    have hm : (way.map convP).length ≤ 2000000 := by rw [List.length_map]; exact hw
    have hms : ∀ x ∈ way.map convP, Sm x := by
     intro x hx
     obtain ⟨y, hy, rfl⟩ := List.mem_map.1 hx
     exact hsm y hy
    have tA : Ev (fun k => laws_toAnswer.f k no p q it n sg up way) (no, p, q, it, n, sg, up, way.map convP) := ev_bind (toBlock p q it hi) (ev_bind (toSeal n sg up hs hu) (ev_bind (toPages way hw hsm) (Ev.now _)))
    have eA : Ev (fun k => laws_eqAnswer.f k no p q it n sg up (way.map convP) no p q it n sg up (way.map convP)) true := ev_pos rfl (ev_bind (eqBlock p q it hi) (ev_pos rfl (ev_bind (eqSeal n sg up hs hu) (ev_pos rfl (ev_bind (eqPages _ hm hms) (ev_pos rfl (Ev.now _)))))))
    obtain ⟨⟨r1, r2, r3⟩, hS, hI⟩ := checkAnswer_two top key no p q it n sg up (way.map convP) hi hs hu hm hms
    refine ev_bind hz (ev_neg (by omega) (ev_bind tA (ev_bind hS (ev_bind tA (ev_bind hI (ev_pos rfl (ev_neg (by simp) ?_)))))))
    simp only [bne_self_eq_false]
    refine Ev.step (f := fun k => _) (fun k => by simp only [laws_FnExactCheckAnswer.j0]; rfl) ?_
    exact ev_neg (by simp) (ev_bind tA (ev_bind eA (ev_pos rfl (Ev.now _))))
   ·rw [left_no c4] at z3
    have hz : Ev (fun k => laws_szAnswer.f k no p q it n sg up way 1048576) (-1) := ev_bind z1 (ev_neg (by omega) (ev_bind z2 (ev_neg (by omega) (ev_bind z3 (ev_pos (by omega) (Ev.now _))))))
    exact ev_bind hz (ev_pos (by omega) (Ev.now _))
  ·rw [left_no c3] at z2
   have hz : Ev (fun k => laws_szAnswer.f k no p q it n sg up way 1048576) (-1) := ev_bind z1 (ev_neg (by omega) (ev_bind z2 (ev_pos (by omega) (Ev.now _))))
   exact ev_bind hz (ev_pos (by omega) (Ev.now _))
 ·rw [left_no c2] at z1
  have hz : Ev (fun k => laws_szAnswer.f k no p q it n sg up way 1048576) (-1) := ev_bind z1 (ev_pos (by omega) (Ev.now _))
  exact ev_bind hz (ev_pos (by omega) (Ev.now _))
end Go.Proofs.YtmfipefpmjcddaaGreatDoor.Pure
end
section
namespace Go.Proofs.YtmfipefpmjcddaaGreatDoor.RO
open Go.RowKit Go.Proofs.YtmfipefpmjcddaaGreatDoorW.PrintWords Go.ChangeShapes Go.WideShapes
set_option linter.unusedVariables false
def Opn (P : Program) (W : World) (e : TypeId) {α : Type} (d : Kd α) (G : α → Prop) : Prop :=
 ∀ {H : Type} {enc : TypeId × Value → H} {base : Nat} {spare : Nat → Bool} {held : Bool} {n : Nat} {cs : List Value} {x : DataW H × List MemPlace},
  DataW.trod enc P W base spare held n e cs = some x → ∃ y : α, d.K W y cs ∧ G y
section
variable {P : Program} {W : World} {e t : TypeId}
theorem op_string (he : P.underlying e = some .string) : Opn P W e Kd.string (fun s => s.size ≤ maxLen) := by
 intro H enc base spare held n cs x h
 obtain ⟨s, rfl, _, hs⟩ := DataW.trod_string he h
 exact ⟨s, rfl, hs⟩
theorem op_int {k : IntKind} (he : P.underlying e = some (.int k)) : Opn P W e (Kd.int k) (fun n => (Lit.int k n).wf = true) := by
 intro H enc base spare held n cs x h
 obtain ⟨m, rfl, _, hs⟩ := DataW.trod_int he h
 exact ⟨m, rfl, hs⟩
theorem pick {α : Type} {p : Nat → α → Prop} : ∀ (n : Nat), (∀ i, i < n → ∃ y, p i y) → ∃ ys : List α, ys.length = n ∧ ∀ i y, ys[i]? = some y → p i y := by
 intro n
 induction n with
 | zero => intro _; exact ⟨[], rfl, fun i y h => by simp at h⟩
 | succ n ih =>
  intro h
  obtain ⟨ys, hl, hp⟩ := ih (fun i hi => h i (by omega))
  obtain ⟨y, hy⟩ := h n (by omega)
  refine ⟨ys ++ [y], by simp [hl], fun i z hz => ?_⟩
  by_cases hi : i < n
  ·rw [List.getElem?_append_left (by omega)] at hz
   exact hp i z hz
  ·rw [List.getElem?_append_right (by omega)] at hz
   have : i = n := by
    rcases Nat.lt_or_ge (i - ys.length) 1 with h1 | h1
    ·omega
    ·rw [List.getElem?_eq_none (by simpa using h1)] at hz; cases hz
   subst this
   rw [hl, Nat.sub_self] at hz
   simp at hz
   subst hz
   exact hy
theorem op_slice {α : Type} {d : Kd α} {G : α → Prop} (ht : P.underlying t = some (.slice e)) (hc : P.cellsOf e = d.sz) (ho : Opn P W e d G) : Opn P W t (Kd.slice e d) (fun l => l.length ≤ maxLen ∧ ∀ x ∈ l, G x) := by
 intro H enc base spare held n cs x h
 rcases Deep.open_slice ht h with ⟨rfl, _⟩ | ⟨a, len, cap, m, n', D, Pl, rfl, _, hl, hm, hmm, _, hx⟩
 ·exact ⟨[], ⟨none, 0, rfl, Nat.le_refl _, Kd.C_nil _ _⟩, by simp [maxLen], fun x hx => by cases hx⟩
 ·obtain ⟨ys, hyl, hy⟩ := pick (p := fun i y => ∃ c, c.length = d.sz ∧ d.K W y c ∧ G y ∧ ∀ j u, c[j]? = some u → W.cell? (a.add (i * d.sz + j)) = some u) len (fun i hi => by
   have him : i < m := by rw [hmm]; split <;> omega
   obtain ⟨c, h1, h2⟩ := hx i him
   obtain ⟨y, hk, hg⟩ := ho h2
   obtain ⟨_, hcl, hcell⟩ := World.cells?_some h1
   rw [hc] at hcl hcell
   refine ⟨y, c, hcl, hk, hg, fun j u hj => ?_⟩
   have hj' : j < d.sz := by rw [← hcl]; exact (List.getElem?_eq_some_iff.1 hj).1
   have := hcell j hj'
   rw [hj] at this
   rw [← this]
   congr 1
   have e0 : ∀ p q : Nat, (a.add p).add q = a.add (p + q) := by
    intro p q
    obtain ⟨b, o, s⟩ := a
    unfold Addr.add
    by_cases hp : p = 0
    ·subst hp; simp
    ·by_cases hq : q = 0
     ·subst hq; simp [hp]
     ·simp [hp, hq]; omega
   rw [e0])
  refine ⟨ys, ⟨some a, cap, by rw [hyl], by omega, rfl, by rw [hyl]; unfold maxLen at hm; omega, fun h0 => ⟨a, rfl, fun j p hj => ?_⟩⟩, by rw [hyl]; omega, fun x hx => ?_⟩
  ·obtain ⟨c, h1, h2, _, h3⟩ := hy j p hj
   exact ⟨c, h1, h2, h3⟩
  ·obtain ⟨i, hi⟩ := List.getElem?_of_mem hx
   obtain ⟨c, _, _, h, _⟩ := hy i x hi
   exact h
def OpAt (P : Program) (W : World) (fs : List (TypeId × Nat)) (off : Nat) {α : Type} (d : Kd α) (G : α → Prop) : Prop :=
 ∀ {H : Type} {enc : TypeId × Value → H} {base : Nat} {spare : Nat → Bool} {held : Bool} {n : Nat} {cs : List Value}, cs.length = off + d.sz →
  (∀ f ∈ fs, ∃ x, DataW.trod enc P W base spare held n f.1 ((cs.drop f.2).take (P.cellsOf f.1)) = some x) → ∃ y : α, d.K W y (cs.drop off) ∧ G y
theorem opAt_one {off : Nat} {α : Type} {d : Kd α} {G : α → Prop} (hc : P.cellsOf e = d.sz) (h : Opn P W e d G) : OpAt P W [(e, off)] off d G := by
 intro H enc base spare held n cs hl hf
 obtain ⟨x, hx⟩ := hf (e, off) (List.mem_singleton.2 rfl)
 dsimp only at hx
 rw [hc, List.take_of_length_le (by rw [List.length_drop]; omega)] at hx
 exact h hx
theorem opAt_cons {off : Nat} {fs : List (TypeId × Nat)} {α β : Type} {d1 : Kd α} {d2 : Kd β} {G1 : α → Prop} {G2 : β → Prop} (hc : P.cellsOf e = d1.sz) (h1 : Opn P W e d1 G1) (h2 : OpAt P W fs (off + d1.sz) d2 G2) :
  OpAt P W ((e, off) :: fs) off (Kd.pair d1 d2) (fun y => G1 y.1 ∧ G2 y.2) := by
 intro H enc base spare held n cs hl hf
 have hl' : cs.length = off + (d1.sz + d2.sz) := hl
 obtain ⟨x, hx⟩ := hf (e, off) List.mem_cons_self
 dsimp only at hx
 rw [hc] at hx
 obtain ⟨y1, hk1, hg1⟩ := h1 hx
 obtain ⟨y2, hk2, hg2⟩ := h2 (cs := cs) (by omega) (fun f hf' => hf f (List.mem_cons_of_mem _ hf'))
 refine ⟨(y1, y2), ⟨(cs.drop off).take d1.sz, cs.drop (off + d1.sz), ?_, hk1, hk2⟩, hg1, hg2⟩
 rw [← List.drop_drop, List.take_append_drop]
theorem op_struct {fs : Array Field} {L : List (TypeId × Nat)} {α β : Type} {d : Kd α} {f : β → α} {g : α → β} {G : α → Prop} (ht : P.underlying t = some (.struct fs)) (hL : fs.toList.map (fun f => (f.type, f.offset)) = L) (hc : P.cellsOf t = d.sz) (hfg : ∀ y, f (g y) = y)
  (h : OpAt P W L 0 d G) : Opn P W t (Kd.iso d f) (fun x => G (f x)) := by
 intro H enc base spare held n cs x hx
 obtain ⟨xs, m, _, _, hl, hxl, hf⟩ := DataW.trod_struct ht hx
 obtain ⟨y, hk, hg⟩ := h (cs := cs) (n := m) (enc := enc) (base := base) (spare := spare) (held := held) (by rw [hl, hc]; omega) (fun q hq => by
  rw [← hL] at hq
  obtain ⟨fd, hfd, rfl⟩ := List.mem_map.1 hq
  obtain ⟨i, hi⟩ := List.getElem?_of_mem hfd
  rw [Array.getElem?_toList] at hi
  have hlt : i < xs.length := by
   have := (Array.getElem?_eq_some_iff.1 hi).1
   omega
  exact ⟨xs[i], by rw [hf i fd hi]; exact List.getElem?_eq_getElem hlt⟩)
 rw [List.drop_zero] at hk
 refine ⟨g y, ?_, ?_⟩
 ·show d.K W (f (g y)) cs
  rw [hfg]; exact hk
 ·show G (f (g y))
  rw [hfg]; exact hg
theorem op_struct0 {fs : Array Field} {L : List (TypeId × Nat)} {α : Type} {d : Kd α} {G : α → Prop} (ht : P.underlying t = some (.struct fs)) (hL : fs.toList.map (fun f => (f.type, f.offset)) = L) (hc : P.cellsOf t = d.sz)
  (h : OpAt P W L 0 d G) : Opn P W t d G := by
 intro H enc base spare held n cs x hx
 exact op_struct (d := d) (f := fun y : α => y) (g := fun y => y) ht hL hc (fun _ => rfl) h hx
end
theorem agg_of_cells {v : Value} {l : List Value} (h : v.cells.toList = l) (hl : 2 ≤ l.length) : v = .agg l.toArray := by
 cases v <;> simp only [Value.cells] at h
 case agg cs => subst h; simp
 all_goals (subst h; simp at hl)
end Go.Proofs.YtmfipefpmjcddaaGreatDoor.RO
end
