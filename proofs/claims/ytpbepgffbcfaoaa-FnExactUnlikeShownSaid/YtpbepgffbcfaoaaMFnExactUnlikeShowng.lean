/- For the law FnExactUnlikeShown (laid by merge.py). -/
import Derived.Test.YtpbepgffbcfaoaaMFnExactUnlikeShownf
import Derived.Deep.Slices
import Derived.ChangeArms
import Derived.DataReads
section
namespace Go.Proofs.Ytpbepgffbcfaoaa.PG
open Go.RowKit Go.Proofs.YtpbepgffbcfaoaaW.PrintWords Go.Proofs.YtpbepgffbcfaoaaW.PrintLast Go.Proofs.YtpbepgffbcfaoaaW.PrintMore Go.Proofs.Ytpbepgffbcfaoaa.PB Go.Proofs.Ytpbepgffbcfaoaa.PL
set_option linter.unusedVariables false
theorem loop_up {β : Type} {r : β} (n : Nat) (S : Nat → Nat → Option β) (hend : Ev (S n) r) (hround : ∀ i, i < n → Ev (S (i + 1)) r → Ev (S i) r) : Ev (S 0) r := by
 have key : ∀ d i, i + d = n → Ev (S i) r := by
  intro d
  induction d with
  | zero => intro i hi; rw [show i = n by omega]; exact hend
  | succ d ih => intro i hi; exact hround i (by omega) (ih (i + 1) (by omega))
 exact key n 0 (by omega)
def wsum {α : Type} (wt : α → Nat) : List α → Nat
 | [] => 0
 | x :: l => wt x + wsum wt l
theorem wsum_mem {α : Type} (wt : α → Nat) (l : List α) : ∀ x ∈ l, wt x ≤ wsum wt l := by
 induction l with
 | nil => intro s h; cases h
 | cons a l ih =>
  intro s h
  simp only [wsum]
  rcases List.mem_cons.mp h with rfl | h
  ·omega
  ·have := ih s h; omega
def left (R : Int) (w : Nat) : Int := if (w : Int) ≤ R then R - w else -1
theorem left_yes {R : Int} {w : Nat} (h : (w : Int) ≤ R) : left R w = R - w := if_pos h
theorem left_no {R : Int} {w : Nat} (h : ¬ (w : Int) ≤ R) : left R w = -1 := if_neg h
theorem left_add {R : Int} {a b : Nat} (h : (a : Int) ≤ R) : left (R - a) b = left R (a + b) := by
 unfold left
 by_cases hb : (b : Int) ≤ R - a
 ·rw [if_pos hb, if_pos (by omega)]; omega
 ·rw [if_neg hb, if_neg (by omega)]
theorem to_list {α β : Type} (f : α → β) (z : β) (l : List α) (L0 : Nat → List α → List β → Int → Option (List β)) (hl : l.length ≤ 2000000)
  (hend : ∀ k out, L0 (k + 1) l out (l.length : Int) = some out)
  (hround : ∀ i (h : i < l.length) (out : List β), out.length = l.length → ∀ r, Ev (fun k => L0 k l (out.set i (f l[i])) ((i + 1 : Nat) : Int)) r → Ev (fun k => L0 k l out (i : Int)) r) :
  Ev (fun k => L0 k l (List.replicate l.length z) 0) (l.map f) := by
 have h := loop_up (r := l.map f) l.length (fun i k => L0 k l (filled f z l i) (i : Int)) ?_ ?_
 ·rw [← filled_zero f z l]; exact h
 ·refine Ev.step (f := fun _ => some (l.map f)) (fun k => ?_) (Ev.now _)
  rw [hend, filled_all]
 ·intro i hi h
  refine hround i hi _ (filled_length _ _ _ _ (by omega)) _ ?_
  rw [filled_set f z l i hi]
  exact h
theorem eq_list {α : Type} (l : List α) (L0 : Nat → List α → List α → Int → Option Bool) (F : Nat → List α → List α → Option Bool) (hend : ∀ k, L0 (k + 1) l l (l.length : Int) = some true)
  (hF : ∀ k, F k l l = L0 k l l 0) (hround : ∀ i (h : i < l.length), Ev (fun k => L0 k l l ((i + 1 : Nat) : Int)) true → Ev (fun k => L0 k l l (i : Int)) true) : Ev (fun k => F k l l) true := by
 refine Ev.congr (f := fun k => L0 k l l ((0 : Nat) : Int)) (fun k => hF k) ?_
 exact loop_up l.length (fun i k => L0 k l l (i : Int)) (Ev.step (f := fun _ => some true) (fun k => hend k) (Ev.now _)) (fun i hi h => hround i hi h)
end Go.Proofs.Ytpbepgffbcfaoaa.PG
end
section
namespace Go.Proofs.Ytpbepgffbcfaoaa.PQ

end Go.Proofs.Ytpbepgffbcfaoaa.PQ
end
section
namespace Go.Proofs.Ytpbepgffbcfaoaa.PV

end Go.Proofs.Ytpbepgffbcfaoaa.PV
end
section
namespace Go.Proofs.Ytpbepgffbcfaoaa.PW
open Go.RowKit Go.Proofs.YtpbepgffbcfaoaaW.PrintWords Go.Proofs.YtpbepgffbcfaoaaW.PrintLast Go.Proofs.YtpbepgffbcfaoaaW.PrintMore Go.Proofs.Ytpbepgffbcfaoaa.PB Go.Proofs.Ytpbepgffbcfaoaa.PD Go.Proofs.Ytpbepgffbcfaoaa.PK Go.Proofs.Ytpbepgffbcfaoaa.PL Go.Proofs.Ytpbepgffbcfaoaa.PS Go.Proofs.Ytpbepgffbcfaoaa.PT Go.Proofs.Ytpbepgffbcfaoaa.PU Go.Proofs.Ytpbepgffbcfaoaa.PG Go.Proofs.Ytpbepgffbcfaoaa.PQ Go.Proofs.Ytpbepgffbcfaoaa.PV Go.Proofs.Ytpbepgffbcfaoaa.PA
set_option linter.unusedVariables false
noncomputable def ch (P : Prop) : Bool := @decide P (Classical.propDecidable P)
theorem ch_yes {P : Prop} (h : P) : ch P = true := @decide_eq_true P (Classical.propDecidable P) h
theorem ch_no {P : Prop} (h : ¬ P) : ch P = false := @decide_eq_false P (Classical.propDecidable P) h
theorem ch_true {P : Prop} (h : ch P = true) : P := @of_decide_eq_true P (Classical.propDecidable P) h
theorem loop_yes {β : Type} (n : Nat) (S : Nat → Nat → Option β) (Q : Nat → Prop) (b : β) (hround : ∀ r i, i < n → Q i → Ev (S (i + 1)) r → Ev (S i) r) (hend : Ev (S n) b) (hq : ∀ i, i < n → Q i) : Ev (S 0) b :=
 loop_up n S hend (fun i hi h => hround b i hi (hq i hi) h)
theorem loop_no {β : Type} (n : Nat) (S : Nat → Nat → Option β) (Q : Nat → Prop) (no : β) (hround : ∀ r i, i < n → Q i → Ev (S (i + 1)) r → Ev (S i) r) (hno : ∀ i, i < n → ¬ Q i → Ev (S i) no) (hq : ¬ ∀ i, i < n → Q i) : Ev (S 0) no := by
 refine Classical.byContradiction fun hc => hq ?_
 have key : ∀ i, i ≤ n → (¬ Ev (S i) no) ∧ ∀ j, j < i → Q j := by
  intro i
  induction i with
  | zero => intro _; exact ⟨hc, fun j hj => absurd hj (Nat.not_lt_zero j)⟩
  | succ i ih =>
   intro hi
   obtain ⟨h1, h2⟩ := ih (by omega)
   have hQ : Q i := Classical.byContradiction fun h => h1 (hno i (by omega) h)
   refine ⟨fun h => h1 (hround no i (by omega) hQ h), fun j hj => ?_⟩
   by_cases e : j = i
   ·subst e; exact hQ
   ·exact h2 j (by omega)
 exact (key n (Nat.le_refl n)).2
theorem has_str (l : List ByteArray) (L0 : Nat → List ByteArray → Int → Int → Option Int) (cl : Nat → ByteArray → Option Bool) (p : ByteArray → Bool)
  (hstep : ∀ k n i, L0 (k + 1) l n i = if i < n then (if 0 ≤ i then (if i < (l.length : Int) then ((cl k (rdOf ByteArray.empty l i)).bind fun t => if t = true then some i else L0 k l n (wrap64 (i + 1))) else none) else none) else some (-1))
  (hp : ∀ x ∈ l, Ev (fun k => cl k x) (p x)) (hl : l.length ≤ 4000000000000000000) : Ev (fun k => (L0 k l (l.length : Int) 0).bind fun t => some (decide (t ≥ 0))) (l.any p) := by
 obtain ⟨r, hr, e⟩ := idx_any l (fun l i => rdOf ByteArray.empty l i) (fun i h => rdOf_at _ l i h) L0 cl p hstep hp hl
 rw [← e]
 exact ev_bind (f := fun _ t => some (decide (t ≥ 0))) hr (Ev.now _)
theorem not_any {α : Type} (p : α → Bool) : ∀ l : List α, (l.any fun s => !p s) = !(l.all p) := by
 intro l
 induction l with
 | nil => rfl
 | cons x l ih => simp only [List.any_cons, List.all_cons, Bool.not_and, ih]
theorem all_at (l : List ByteArray) (p : ByteArray → Bool) : l.all p = true ↔ ∀ i, i < l.length → p (rdOf ByteArray.empty l (i : Int)) = true := by
 rw [List.all_eq_true]
 constructor
 ·intro h i hi
  rw [rdOf_at _ _ _ hi]
  exact h _ (List.getElem_mem hi)
 ·intro h x hx
  obtain ⟨i, hi, e⟩ := List.getElem_of_mem hx
  have := h i hi
  rw [rdOf_at _ _ _ hi, e] at this
  exact this
def keyB (s : ByteArray) : Bool := decide (1 ≤ (s.size : Int) ∧ (s.size : Int) ≤ 12)
def valB (s : ByteArray) : Bool := decide ((s.size : Int) ≤ 12)
theorem keyI (s : ByteArray) : impl_isKey.f s = some (keyB s) := by
 unfold impl_isKey.f; rw [inI]; rfl
theorem empty_iff (a : ByteArray) : a.toList = ([] : List UInt8) ↔ a.size = 0 := by
 rw [← size_toList]
 constructor
 ·intro h; rw [h]; rfl
 ·intro h; exact List.length_eq_zero_iff.mp h
theorem pairS (a b : ByteArray) : spec_l5Pair.f a b = some (keyB a && valB b) := by
 unfold spec_l5Pair.f spec_l5Text.f keyB valB
 simp only [Option.bind_some]
 by_cases h1 : (a.size : Int) ≤ 12
 ·rw [if_pos (decide_eq_true h1)]
  by_cases h2 : (b.size : Int) ≤ 12
  ·rw [if_pos (decide_eq_true h2), decide_eq_true h2, Bool.and_true]
   by_cases h3 : a.size = 0
   ·rw [(empty_iff a).2 h3, decide_eq_false (by omega)]; rfl
   ·have : a.toList ≠ [] := fun h => h3 ((empty_iff a).1 h)
    rw [decide_eq_true ⟨by omega, h1⟩]
    exact congrArg some (by simp [this])
  ·rw [if_neg (by simp [h2]), decide_eq_false h2, Bool.and_false]
 ·rw [if_neg (by simp [h1]), decide_eq_false (fun h => h1 h.2)]; rfl
abbrev tx (l : List ByteArray) (i : Nat) : ByteArray := rdOf ByteArray.empty l (i : Int)
def risesAt (K : List ByteArray) (i : Nat) : Prop := 0 < i → Op.bytesLess (tx K (i - 1)).toList (tx K i).toList = true
def pageOk (K V C : List ByteArray) (g : Int) : Prop := K.length ≤ 4 ∧ V.length = K.length ∧ (∀ i, i < K.length → keyB (tx K i) = true ∧ risesAt K i) ∧ V.all valB = true ∧ (C.length = 0 ∨ C.length = K.length + 1) ∧ all4 C = true ∧ (0 ≤ g ∧ g ≤ (K.length : Int))
theorem risingI (K : List ByteArray) (hK : K.length ≤ 2000000) : Ev (fun k => impl_areRising.f k K) (ch (∀ i, i < K.length → keyB (tx K i) = true ∧ risesAt K i)) := by
 have round : ∀ (r : Bool) i, i < K.length → (keyB (tx K i) = true ∧ risesAt K i) → Ev (fun k => impl_areRising.l0 k K K (K.length : Int) ((i + 1 : Nat) : Int)) r → Ev (fun k => impl_areRising.l0 k K K (K.length : Int) (i : Int)) r := by
  intro r i hi hq h
  refine Ev.step (f := fun k => impl_areRising.l0 k K K (K.length : Int) ((i + 1 : Nat) : Int)) (fun k => ?_) h
  simp only [impl_areRising.l0]
  rw [if_pos (by omega), if_pos (by omega), if_pos (by omega), keyI, w64 (x := (i : Int) + 1) (by omega) (by omega)]
  simp only [Option.bind_some]
  rw [if_pos hq.1]
  by_cases h0 : 0 < i
  ·rw [if_pos (by omega), w64 (x := (i : Int) - 1) (by omega) (by omega), if_pos (by omega), if_pos (by omega), show (i : Int) - 1 = ((i - 1 : Nat) : Int) by omega, if_pos (hq.2 h0)]; rfl
  ·rw [if_neg (by omega)]; rfl
 have stop : ∀ i, i < K.length → ¬ (keyB (tx K i) = true ∧ risesAt K i) → Ev (fun k => impl_areRising.l0 k K K (K.length : Int) (i : Int)) false := by
  intro i hi hq
  refine Ev.step (f := fun _ => some false) (fun k => ?_) (Ev.now _)
  simp only [impl_areRising.l0]
  rw [if_pos (by omega), if_pos (by omega), if_pos (by omega), keyI]
  simp only [Option.bind_some]
  by_cases hk : keyB (tx K i) = true
  ·rw [if_pos hk]
   have h0 : 0 < i := Classical.byContradiction fun h => hq ⟨hk, fun h' => absurd h' h⟩
   rw [if_pos (by omega), w64 (x := (i : Int) - 1) (by omega) (by omega), if_pos (by omega), if_pos (by omega), show (i : Int) - 1 = ((i - 1 : Nat) : Int) by omega, if_neg (fun h => hq ⟨hk, fun _ => h⟩)]
  ·rw [if_neg hk]
 by_cases h : ∀ i, i < K.length → keyB (tx K i) = true ∧ risesAt K i
 ·rw [ch_yes h]
  exact loop_yes K.length (fun i k => impl_areRising.l0 k K K (K.length : Int) (i : Int)) _ true round (Ev.step (f := fun _ => some true) (fun k => by simp only [impl_areRising.l0]; rw [if_neg (by omega)]) (Ev.now _)) h
 ·rw [ch_no h]
  exact loop_no K.length (fun i k => impl_areRising.l0 k K K (K.length : Int) (i : Int)) _ false round stop h
theorem valsI (V : List ByteArray) (hV : V.length ≤ 2000000) : Ev (fun k => slices_ContainsFunc_impl_arePairs_1.f k V) (!(V.all valB)) := by
 rw [← not_any]
 exact has_str V slices_IndexFunc_impl_arePairs_1.l0 (fun _ s => impl_arePairs_1.f s) (fun s => !valB s) (fun k n i => rfl) (fun x _ => Ev.now _) (by omega)
theorem pairsI (K V : List ByteArray) (hK : K.length ≤ 2000000) (hV : V.length ≤ 2000000) : Ev (fun k => impl_arePairs.f k K V) (ch (K.length ≤ 40 ∧ V.length = K.length ∧ (∀ i, i < K.length → keyB (tx K i) = true ∧ risesAt K i) ∧ V.all valB = true)) := by
 unfold impl_arePairs.f
 by_cases h1 : K.length ≤ 40
 ·refine ev_pos (by omega) ?_
  by_cases h2 : V.length = K.length
  ·refine ev_pos (by omega) (ev_bind (risingI K hK) ?_)
   by_cases h3 : ∀ i, i < K.length → keyB (tx K i) = true ∧ risesAt K i
   ·rw [ch_yes h3]
    refine ev_pos rfl (ev_bind (valsI V hV) (ev_eq (Ev.now _) ?_))
    cases h4 : V.all valB with
    | true => exact (ch_yes ⟨h1, h2, h3, rfl⟩).symm
    | false => rw [ch_no (fun h => by simp at h)]; rfl
   ·rw [ch_no h3]
    exact ev_eq (ev_neg (by simp) (Ev.now _)) (ch_no (fun h => h3 h.2.2.1)).symm
  ·exact ev_eq (ev_neg (by omega) (Ev.now _)) (ch_no (fun h => h2 h.2.1)).symm
 ·exact ev_eq (ev_neg (by omega) (Ev.now _)) (ch_no (fun h => h1 h.1)).symm
theorem goodShownI (K V C : List ByteArray) (g : Int) (hK : K.length ≤ 2000000) (hV : V.length ≤ 2000000) (hC : C.length ≤ 2000000) : Ev (fun k => impl_GoodShown.f k K V C g) (ch (pageOk K V C g)) := by
 unfold impl_GoodShown.f
 by_cases h1 : K.length ≤ 4
 ·refine ev_pos (by omega) (ev_bind (pairsI K V hK hV) ?_)
  by_cases hp : K.length ≤ 40 ∧ V.length = K.length ∧ (∀ i, i < K.length → keyB (tx K i) = true ∧ risesAt K i) ∧ V.all valB = true
  ·rw [ch_yes hp]
   refine ev_pos rfl ?_
   have fin : ∀ (h5 : C.length = 0 ∨ C.length = K.length + 1) (h6 : all4 C = true), Ev (fun k => (impl_within.f g 0 (K.length : Int)).bind fun t => some t) (ch (pageOk K V C g)) := by
    intro h5 h6
    refine ev_const (inI _ _ _) (ev_eq (Ev.now _) ?_)
    by_cases h7 : 0 ≤ g ∧ g ≤ (K.length : Int)
    ·rw [decide_eq_true h7]; exact (ch_yes ⟨h1, hp.2.1, hp.2.2.1, hp.2.2.2, h5, h6, h7⟩).symm
    ·rw [decide_eq_false h7]; exact (ch_no (fun h => h7 h.2.2.2.2.2.2)).symm
   by_cases h4 : C.length = 0
   ·refine ev_pos (by omega) (fin (Or.inl h4) ?_)
    rw [List.length_eq_zero_iff.mp h4]; rfl
   ·refine ev_neg (by omega) ?_
    rw [w64 (x := (K.length : Int) + 1) (by omega) (by omega)]
    refine ev_bind (areDigI C _ (by omega)) ?_
    by_cases h5 : (decide ((C.length : Int) = (K.length : Int) + 1) && all4 C) = true
    ·rw [h5]
     simp only [Bool.and_eq_true, decide_eq_true_eq] at h5
     exact ev_pos rfl (fin (Or.inr (by omega)) h5.2)
    ·refine ev_neg h5 (ev_eq (Ev.now _) (ch_no (fun h => h5 ?_)).symm)
     obtain ⟨_, _, _, _, h8, h9, _⟩ := h
     rw [h9, Bool.and_true]
     exact decide_eq_true (by omega)
  ·rw [ch_no hp]
   exact ev_eq (ev_neg (by simp) (Ev.now _)) (ch_no (fun h => hp ⟨by omega, h.2.1, h.2.2.1, h.2.2.2.1⟩)).symm
 ·exact ev_eq (ev_neg (by omega) (Ev.now _)) (ch_no (fun h => h1 h.1)).symm
theorem goodShownS (K V C : List ByteArray) (g : Int) (hK : K.length ≤ 2000000) (hV : V.length ≤ 2000000) (hC : C.length ≤ 2000000) : Ev (fun k => spec_GoodShown.f k K V C g) (ch (pageOk K V C g)) := by
 have endS : (∀ i, i < K.length → (i < V.length ∧ valB (tx V i) = true) ∧ keyB (tx K i) = true ∧ risesAt K i) → Ev (fun k => spec_GoodShown.l1 k C (C.length : Int) 0 K V C g) (ch (pageOk K V C g)) := by
  intro hA
  have round : ∀ (r : Bool) i, i < C.length → (tx C i).size = 4 → Ev (fun k => spec_GoodShown.l1 k C (C.length : Int) ((i + 1 : Nat) : Int) K V C g) r → Ev (fun k => spec_GoodShown.l1 k C (C.length : Int) (i : Int) K V C g) r := by
   intro r i hi hq h
   refine Ev.step (f := fun k => spec_GoodShown.l1 k C (C.length : Int) ((i + 1 : Nat) : Int) K V C g) (fun k => ?_) h
   simp only [spec_GoodShown.l1]
   rw [if_pos (by omega), if_pos (by omega), if_pos (by omega), if_pos (show ((rdOf ByteArray.empty C (i : Int)).size : Int) = 4 from by have : (rdOf ByteArray.empty C (i : Int)).size = 4 := hq; omega), w64 (x := (i : Int) + 1) (by omega) (by omega)]
   rfl
  by_cases h6 : ∀ i, i < C.length → (tx C i).size = 4
  ·have h6' : all4 C = true := (all_at C _).2 (fun i hi => decide_eq_true (h6 i hi))
   refine loop_yes C.length (fun i k => spec_GoodShown.l1 k C (C.length : Int) (i : Int) K V C g) _ _ round ?_ h6
   refine Ev.step (f := fun k => if (K.length : Int) ≤ 4 then (if (V.length : Int) = (K.length : Int) then (if (C.length : Int) = 0 then ((spec_l1In.f g 0 (K.length : Int)).bind fun t252 => (some t252)) else (if (C.length : Int) = (wrap64 ((K.length : Int) + 1)) then ((spec_l1In.f g 0 (K.length : Int)).bind fun t253 => (some t253)) else (some false))) else (some false)) else (some false)) (fun k => by simp only [spec_GoodShown.l1]; rw [if_neg (by omega)]) ?_
   by_cases h1 : K.length ≤ 4
   ·refine ev_pos (by omega) ?_
    by_cases h2 : V.length = K.length
    ·refine ev_pos (by omega) ?_
     have hv : V.all valB = true := (all_at V _).2 (fun i hi => (hA i (by omega)).1.2)
     have hk : ∀ i, i < K.length → keyB (tx K i) = true ∧ risesAt K i := fun i hi => (hA i hi).2
     have fin : ∀ (h5 : C.length = 0 ∨ C.length = K.length + 1), Ev (fun k => (spec_l1In.f g 0 (K.length : Int)).bind fun t => some t) (ch (pageOk K V C g)) := by
      intro h5
      refine ev_const (inS _ _ _) (ev_eq (Ev.now _) ?_)
      by_cases h7 : 0 ≤ g ∧ g ≤ (K.length : Int)
      ·rw [decide_eq_true h7]; exact (ch_yes ⟨h1, h2, hk, hv, h5, h6', h7⟩).symm
      ·rw [decide_eq_false h7]; exact (ch_no (fun h => h7 h.2.2.2.2.2.2)).symm
     by_cases h4 : C.length = 0
     ·exact ev_pos (by omega) (fin (Or.inl h4))
     ·refine ev_neg (by omega) ?_
      rw [w64 (x := (K.length : Int) + 1) (by omega) (by omega)]
      by_cases h5 : C.length = K.length + 1
      ·exact ev_pos (by omega) (fin (Or.inr h5))
      ·exact ev_eq (ev_neg (by omega) (Ev.now _)) (ch_no (fun h => by have := h.2.2.2.2.1; omega)).symm
    ·exact ev_eq (ev_neg (by omega) (Ev.now _)) (ch_no (fun h => h2 h.2.1)).symm
   ·exact ev_eq (ev_neg (by omega) (Ev.now _)) (ch_no (fun h => h1 h.1)).symm
  ·rw [ch_no (fun h => h6 (fun i hi => of_decide_eq_true ((all_at C _).1 h.2.2.2.2.2.1 i hi)))]
   refine loop_no C.length (fun i k => spec_GoodShown.l1 k C (C.length : Int) (i : Int) K V C g) _ false round (fun i hi hq => ?_) h6
   refine Ev.step (f := fun _ => some false) (fun k => ?_) (Ev.now _)
   simp only [spec_GoodShown.l1]
   rw [if_pos (by omega), if_pos (by omega), if_pos (by omega), if_neg (show ¬ ((rdOf ByteArray.empty C (i : Int)).size : Int) = 4 from by have : ¬ (rdOf ByteArray.empty C (i : Int)).size = 4 := hq; omega)]
 have round : ∀ (r : Bool) i, i < K.length → ((i < V.length ∧ valB (tx V i) = true) ∧ keyB (tx K i) = true ∧ risesAt K i) → Ev (fun k => spec_GoodShown.l0 k K (K.length : Int) ((i + 1 : Nat) : Int) K V C g) r → Ev (fun k => spec_GoodShown.l0 k K (K.length : Int) (i : Int) K V C g) r := by
  intro r i hi hq h
  refine Ev.step (f := fun k => spec_GoodShown.l0 k K (K.length : Int) ((i + 1 : Nat) : Int) K V C g) (fun k => ?_) h
  have hb : (keyB (tx K i) && valB (tx V i)) = true := by rw [hq.1.2, hq.2.1]; rfl
  have hi2 := hq.1.1
  simp only [spec_GoodShown.l0]
  rw [if_pos (by omega), if_pos (by omega), if_pos (by omega), if_neg (by omega), if_pos (by omega), pairS, w64 (x := (i : Int) + 1) (by omega) (by omega)]
  simp only [Option.bind_some]
  rw [if_pos hb]
  by_cases h0 : 0 < i
  ·rw [if_pos (by omega), w64 (x := (i : Int) - 1) (by omega) (by omega), if_pos (by omega), if_pos (by omega), show (i : Int) - 1 = ((i - 1 : Nat) : Int) by omega, if_pos (hq.2.2 h0)]; rfl
  ·rw [if_neg (by omega)]; rfl
 have stop : ∀ i, i < K.length → ¬ ((i < V.length ∧ valB (tx V i) = true) ∧ keyB (tx K i) = true ∧ risesAt K i) → Ev (fun k => spec_GoodShown.l0 k K (K.length : Int) (i : Int) K V C g) false := by
  intro i hi hq
  refine Ev.step (f := fun _ => some false) (fun k => ?_) (Ev.now _)
  simp only [spec_GoodShown.l0]
  rw [if_pos (by omega), if_pos (by omega), if_pos (by omega)]
  by_cases hi2 : i < V.length
  ·rw [if_neg (by omega), if_pos (by omega), pairS]
   simp only [Option.bind_some]
   by_cases hb : (keyB (tx K i) && valB (tx V i)) = true
   ·rw [if_pos hb]
    rw [Bool.and_eq_true] at hb
    have h0 : 0 < i := Classical.byContradiction fun h => hq ⟨⟨hi2, hb.2⟩, hb.1, fun h' => absurd h' h⟩
    rw [if_pos (by omega), w64 (x := (i : Int) - 1) (by omega) (by omega), if_pos (by omega), if_pos (by omega), show (i : Int) - 1 = ((i - 1 : Nat) : Int) by omega, if_neg (fun h => hq ⟨⟨hi2, hb.2⟩, hb.1, fun _ => h⟩)]
   ·rw [if_neg hb]
  ·rw [if_pos (by omega)]
 by_cases hA : ∀ i, i < K.length → (i < V.length ∧ valB (tx V i) = true) ∧ keyB (tx K i) = true ∧ risesAt K i
 ·exact loop_yes K.length (fun i k => spec_GoodShown.l0 k K (K.length : Int) (i : Int) K V C g) _ _ round (Ev.step (f := fun k => spec_GoodShown.l1 k C (C.length : Int) 0 K V C g) (fun k => by simp only [spec_GoodShown.l0]; rw [if_neg (by omega)]) (endS hA)) hA
 ·refine ev_eq (loop_no K.length (fun i k => spec_GoodShown.l0 k K (K.length : Int) (i : Int) K V C g) _ false round stop hA) (ch_no (fun h => hA (fun i hi => ?_))).symm
  obtain ⟨_, h2, h3, h4, _⟩ := h
  exact ⟨⟨by omega, (all_at V _).1 h4 i (by omega)⟩, h3 i hi⟩
theorem bytes_l1 : ∀ k x C n i, impl_Shown_bytes.l1 k x C n i = spec_l6Bytes.l1 k x C n i := by
 intro k
 induction k with
 | zero => intros; rfl
 | succ k ih => intros; simp only [impl_Shown_bytes.l1, spec_l6Bytes.l1, ih]
theorem bytes_l0 : ∀ k x K0 n i K V C g, impl_Shown_bytes.l0 k x K0 n i K V C g = spec_l6Bytes.l0 k x K0 n i K V C g := by
 intro k
 induction k with
 | zero => intros; rfl
 | succ k ih => intros; simp only [impl_Shown_bytes.l0, spec_l6Bytes.l0, ih, bytes_l1, impl_oneByte.f, Option.bind_some]
theorem bytes_eq (k : Nat) (K V C : List ByteArray) (g : Int) : impl_Shown_bytes.f k K V C g = spec_l6Bytes.f k K V C g := by
 unfold impl_Shown_bytes.f spec_l6Bytes.f impl_oneByte.f
 simp only [Option.bind_some]
 exact bytes_l0 _ _ _ _ _ _ _ _ _
theorem bytesS (K V C : List ByteArray) (g : Int) (h : pageOk K V C g) : ∃ r, Ev (fun k => spec_l6Bytes.f k K V C g) r ∧ r.size ≤ 1000 := by
 obtain ⟨h1, h2, h3, h4, h5, h6, _⟩ := h
 have hc : C.length ≤ 5 := by omega
 have kids : ∀ (d i : Nat) (x : ByteArray), i + d = C.length → x.size ≤ 500 + 4 * i → ∃ r, Ev (fun k => spec_l6Bytes.l1 k x C (C.length : Int) (i : Int)) r ∧ r.size ≤ 1000 := by
  intro d
  induction d with
  | zero =>
   intro i x hi hx
   refine ⟨x, Ev.step (f := fun _ => some x) (fun k => ?_) (Ev.now _), by omega⟩
   simp only [spec_l6Bytes.l1]; rw [if_neg (by omega)]
  | succ d ih =>
   intro i x hi hx
   have hs : (rdOf ByteArray.empty C (i : Int)).size = 4 := of_decide_eq_true ((all_at C _).1 h6 i (by omega))
   obtain ⟨r, hr, hz⟩ := ih (i + 1) (x ++ rdOf ByteArray.empty C (i : Int)) (by omega) (by rw [app_size]; omega)
   refine ⟨r, Ev.step (f := fun k => spec_l6Bytes.l1 k (x ++ rdOf ByteArray.empty C (i : Int)) C (C.length : Int) ((i + 1 : Nat) : Int)) (fun k => ?_) hr, hz⟩
   simp only [spec_l6Bytes.l1]
   rw [if_pos (by omega), if_pos (by omega), if_pos (by omega), if_pos (by omega), w64 (x := (i : Int) + 1) (by omega) (by omega)]
   rfl
 have e1 : ∀ n : Int, (strOfNums [n % 256]).size = 1 := fun n => by rw [strOfNums_size]; rfl
 have pairs : ∀ (d i : Nat) (x : ByteArray), i + d = K.length → x.size ≤ 1 + 40 * i → ∃ r, Ev (fun k => spec_l6Bytes.l0 k x K (K.length : Int) (i : Int) K V C g) r ∧ r.size ≤ 1000 := by
  intro d
  induction d with
  | zero =>
   intro i x hi hx
   obtain ⟨r, hr, hz⟩ := kids C.length 0 (x ++ strOfNums [(C.length : Int) % 256]) (by omega) (by rw [app_size, e1]; omega)
   refine ⟨r, Ev.step (f := fun k => spec_l6Bytes.l1 k (x ++ strOfNums [(C.length : Int) % 256]) C (C.length : Int) ((0 : Nat) : Int)) (fun k => ?_) hr, hz⟩
   simp only [spec_l6Bytes.l0, Option.bind_some]
   rw [if_neg (by omega), if_pos (by rw [e1]; omega)]
   rfl
  | succ d ih =>
   intro i x hi hx
   have ks := of_decide_eq_true (h3 i (by omega)).1
   have vs := of_decide_eq_true ((all_at V _).1 h4 i (by omega))
   have ks' : (rdOf ByteArray.empty K (i : Int)).size ≤ 12 := by
    have : ((rdOf ByteArray.empty K (i : Int)).size : Int) ≤ 12 := ks.2
    omega
   have vs' : (rdOf ByteArray.empty V (i : Int)).size ≤ 12 := by omega
   obtain ⟨r, hr, hz⟩ := ih (i + 1) (x ++ (strOfNums [((rdOf ByteArray.empty K (i : Int)).size : Int) % 256] ++ rdOf ByteArray.empty K (i : Int) ++ strOfNums [((rdOf ByteArray.empty V (i : Int)).size : Int) % 256] ++ rdOf ByteArray.empty V (i : Int))) (by omega) (by simp only [app_size, e1]; omega)
   refine ⟨r, Ev.step (f := fun k => spec_l6Bytes.l0 k (x ++ (strOfNums [((rdOf ByteArray.empty K (i : Int)).size : Int) % 256] ++ rdOf ByteArray.empty K (i : Int) ++ strOfNums [((rdOf ByteArray.empty V (i : Int)).size : Int) % 256] ++ rdOf ByteArray.empty V (i : Int))) K (K.length : Int) ((i + 1 : Nat) : Int) K V C g) (fun k => ?_) hr, hz⟩
   simp only [spec_l6Bytes.l0, Option.bind_some]
   rw [if_pos (by omega), if_pos (by omega), if_pos (by omega), if_pos (by rw [e1]; omega), if_pos (by omega), if_pos (by simp only [app_size, e1]; omega), if_pos (by simp only [app_size, e1]; omega), if_pos (by simp only [app_size, e1]; omega), w64 (x := (i : Int) + 1) (by omega) (by omega)]
   rfl
 obtain ⟨r, hr, hz⟩ := pairs K.length 0 (strOfNums [(K.length : Int) % 256]) (by omega) (by rw [e1]; omega)
 exact ⟨r, hr, hz⟩
theorem k103 : Kd_ 103 := ⟨by decide, by decide⟩
theorem szShown (K V C : List ByteArray) (g : Int) (h1 : Fit K) (h2 : Fit V) (h3 : Fit C) (R : Int) (h0 : 0 ≤ R) (hR : R ≤ 1000000000) : Ev (fun k => laws_szShown.f k K V C g R) (left R (total K + (total V + total C))) := by
 refine ev_bind (szS K h1 R h0 hR) ?_
 by_cases c1 : (total K : Int) ≤ R
 ·rw [if_pos c1]
  refine ev_neg (by omega) (ev_bind (szS V h2 (R - total K) (by omega) (by omega)) ?_)
  by_cases c2 : (total V : Int) ≤ R - total K
  ·rw [if_pos c2]
   refine ev_neg (by omega) (ev_bind (szS C h3 (R - total K - total V) (by omega) (by omega)) ?_)
   by_cases c3 : (total C : Int) ≤ R - total K - total V
   ·rw [if_pos c3]
    refine ev_neg (by omega) (ev_eq (Ev.now _) ?_)
    rw [left_yes (by omega)]; omega
   ·rw [if_neg c3]
    refine ev_pos (by omega) (ev_eq (Ev.now _) ?_)
    rw [left_no (by omega)]
  ·rw [if_neg c2]
   refine ev_pos (by omega) (ev_eq (Ev.now _) ?_)
   rw [left_no (by omega)]
 ·rw [if_neg c1]
  refine ev_pos (by omega) (ev_eq (Ev.now _) ?_)
  rw [left_no (by omega)]
theorem toShown (K V C : List ByteArray) (g : Int) (hK : K.length ≤ 2000000) (hV : V.length ≤ 2000000) (hC : C.length ≤ 2000000) : Ev (fun k => laws_toShown.f k K V C g) (K, V, C, g) :=
 ev_bind (toS K hK) (ev_bind (toS V hV) (ev_bind (toS C hC) (Ev.now _)))
theorem eqShown (K V C : List ByteArray) (g : Int) (hK : K.length ≤ 2000000) (hV : V.length ≤ 2000000) (hC : C.length ≤ 2000000) : Ev (fun k => laws_eqShown.f k K V C g K V C g) true :=
 ev_bind (eqS_yes K hK) (ev_pos rfl (ev_bind (eqS_yes V hV) (ev_pos rfl (ev_bind (eqS_yes C hC) (ev_pos rfl (ev_pos rfl (Ev.now _)))))))
end Go.Proofs.Ytpbepgffbcfaoaa.PW
end
section
namespace Go.Proofs.Ytpbepgffbcfaoaa.PO
open Go.RowKit Go.Proofs.YtpbepgffbcfaoaaW.PrintWords Go.Proofs.YtpbepgffbcfaoaaW.PrintLast Go.Proofs.YtpbepgffbcfaoaaW.PrintMore Go.Proofs.Ytpbepgffbcfaoaa.PB Go.Proofs.Ytpbepgffbcfaoaa.PL Go.Proofs.Ytpbepgffbcfaoaa.PG Go.Proofs.Ytpbepgffbcfaoaa.PW Go.Proofs.Ytpbepgffbcfaoaa.PA
set_option linter.unusedVariables false
theorem bl_trans : ∀ (x y z : List UInt8), Op.bytesLess x y = true → Op.bytesLess y z = true → Op.bytesLess x z = true := by
 intro x
 induction x with
 | nil =>
  intro y z h1 h2
  cases z with
  | nil => cases y <;> simp [Op.bytesLess] at h2
  | cons c z => rfl
 | cons a x ih =>
  intro y z h1 h2
  cases y with
  | nil => simp [Op.bytesLess] at h1
  | cons b y =>
   cases z with
   | nil => simp [Op.bytesLess] at h2
   | cons c z =>
    simp only [Op.bytesLess, Bool.or_eq_true, Bool.and_eq_true, decide_eq_true_eq, beq_iff_eq] at h1 h2 ⊢
    rcases h1 with h1 | ⟨rfl, h1⟩
    ·rcases h2 with h2 | ⟨rfl, h2⟩
     ·exact Or.inl (UInt8.lt_trans h1 h2)
     ·exact Or.inl h1
    ·rcases h2 with h2 | ⟨rfl, h2⟩
     ·exact Or.inl h2
     ·exact Or.inr ⟨rfl, ih y z h1 h2⟩
abbrev lessB (a b : ByteArray) : Bool := Op.bytesLess a.toList b.toList
def Lower (K : List ByteArray) (key : ByteArray) (i : Nat) : Prop := i ≤ K.length ∧ (∀ j, j < i → lessB (tx K j) key = true) ∧ (∀ j, i ≤ j → j < K.length → lessB (tx K j) key = false)
theorem rises_less {K : List ByteArray} (h : ∀ i, i < K.length → risesAt K i) : ∀ (d j : Nat), j + d + 1 < K.length → lessB (tx K j) (tx K (j + d + 1)) = true := by
 intro d
 induction d with
 | zero => intro j hj; exact h (j + 1) hj (by omega)
 | succ d ih =>
  intro j hj
  have h1 := ih j (by omega)
  have h2 := h (j + d + 1 + 1) hj (by omega)
  exact bl_trans _ _ _ h1 h2
theorem rises_lt {K : List ByteArray} (h : ∀ i, i < K.length → risesAt K i) (j m : Nat) (hj : j < m) (hm : m < K.length) : lessB (tx K j) (tx K m) = true := by
 have := rises_less h (m - j - 1) j (by omega)
 rw [show j + (m - j - 1) + 1 = m by omega] at this
 exact this
theorem cmpLess (a b : ByteArray) : cmp_Less_string.f a b = some (lessB a b) := by
 unfold cmp_Less_string.f cmp_isNaN_string.f
 simp only [Option.bind_some, bne_self_eq_false]
 rfl
theorem search (K : List ByteArray) (key : ByteArray) (hK : K.length ≤ 1000000000) (hr : ∀ i, i < K.length → risesAt K i) : ∃ i b, Ev (fun k => slices_BinarySearch_string_string.f k K key) ((i : Nat), b) ∧ Lower K key i := by
 have loop : ∀ (d lo hi : Nat), hi - lo = d → lo ≤ hi → hi ≤ K.length → (∀ j, j < lo → lessB (tx K j) key = true) → (∀ j, hi ≤ j → j < K.length → lessB (tx K j) key = false) →
   ∃ i b, Ev (fun k => slices_BinarySearch_string_string.l0 k K key (K.length : Int) (lo : Int) (hi : Int)) (((i : Nat) : Int), b) ∧ Lower K key i := by
  intro d
  induction d using Nat.strongRecOn with
  | _ d ih =>
   intro lo hi hd h1 h2 h3 h4
   by_cases hc : lo < hi
   ·have em : wrap64 ((IntKind.u64.wrap (wrap64 ((lo : Int) + (hi : Int)))) / 2) = (((lo + hi) / 2 : Nat) : Int) := by
     have e1 : wrap64 ((lo : Int) + (hi : Int)) = ((lo + hi : Nat) : Int) := by rw [w64 (by omega) (by omega)]; omega
     have e2 : IntKind.u64.wrap ((lo + hi : Nat) : Int) = ((lo + hi : Nat) : Int) := by
      have e3 : IntKind.u64.wrap ((lo + hi : Nat) : Int) = ((lo + hi : Nat) : Int) % 18446744073709551616 := by simp [IntKind.wrap, IntKind.bits, IntKind.signed]
      rw [e3]; omega
     rw [e1, e2, w64 (by omega) (by omega)]; omega
    have hm1 : lo ≤ (lo + hi) / 2 := by omega
    have hm2 : (lo + hi) / 2 < hi := by omega
    generalize (lo + hi) / 2 = m at em hm1 hm2
    have e5 : wrap64 ((m : Int) + 1) = ((m + 1 : Nat) : Int) := by rw [w64 (by omega) (by omega)]; rfl
    have c1 : (lo : Int) < (hi : Int) := by omega
    have c2 : 0 ≤ (m : Int) := by omega
    have c3 : (m : Int) < (K.length : Int) := by omega
    have st : ∀ {r}, Ev (fun k => if lessB (tx K m) key = true then slices_BinarySearch_string_string.l0 k K key (K.length : Int) ((m + 1 : Nat) : Int) (hi : Int) else slices_BinarySearch_string_string.l0 k K key (K.length : Int) (lo : Int) (m : Int)) r → Ev (fun k => slices_BinarySearch_string_string.l0 k K key (K.length : Int) (lo : Int) (hi : Int)) r := fun h => Ev.step (fun k => by
     simp only [slices_BinarySearch_string_string.l0]
     rw [em, if_pos c1, if_pos c2, if_pos c3, cmpLess, e5]
     rfl) h
    cases hl : lessB (tx K m) key with
    | true =>
     obtain ⟨i, b, hr', hL⟩ := ih (hi - (m + 1)) (by omega) (m + 1) hi rfl (by omega) h2 (fun j hj => by
      by_cases e : j = m
      ·rw [e]; exact hl
      ·exact bl_trans _ _ _ (rises_lt hr j m (by omega) (by omega)) hl) h4
     exact ⟨i, b, st (ev_pos hl hr'), hL⟩
    | false =>
     obtain ⟨i, b, hr', hL⟩ := ih (m - lo) (by omega) lo m rfl hm1 (by omega) h3 (fun j hj hjl => by
      by_cases e : j = m
      ·rw [e]; exact hl
      ·cases hx : lessB (tx K j) key with
       | false => rfl
       | true =>
        have := bl_trans _ _ _ (rises_lt hr m j (by omega) hjl) hx
        rw [show Op.bytesLess (tx K m).toList key.toList = false from hl] at this
        cases this)
     exact ⟨i, b, st (ev_neg (by simp [hl]) hr'), hL⟩
   ·have e : lo = hi := by omega
    subst e
    have hL : Lower K key lo := ⟨h2, h3, h4⟩
    have c1 : ¬ (lo : Int) < (lo : Int) := by omega
    by_cases hn : lo < K.length
    ·have c2 : (lo : Int) < (K.length : Int) := by omega
     have c3 : 0 ≤ (lo : Int) := by omega
     by_cases he : (tx K lo).toList = key.toList
     ·exact ⟨lo, true, Ev.step (f := fun _ => some ((lo : Int), true)) (fun k => by simp only [slices_BinarySearch_string_string.l0]; rw [if_neg c1, if_pos c2, if_pos c3, if_pos c2, if_pos he]) (Ev.now _), hL⟩
     ·refine ⟨lo, false, Ev.step (f := fun _ => some ((lo : Int), false)) (fun k => ?_) (Ev.now _), hL⟩
      simp only [slices_BinarySearch_string_string.l0, slices_isNaN_string.f]
      rw [if_neg c1, if_pos c2, if_pos c3, if_pos c2, if_neg he]
      simp only [Option.bind_some, bne_self_eq_false]
      rfl
    ·have c2 : ¬ (lo : Int) < (K.length : Int) := by omega
     exact ⟨lo, false, Ev.step (f := fun _ => some ((lo : Int), false)) (fun k => by simp only [slices_BinarySearch_string_string.l0]; rw [if_neg c1, if_neg c2]) (Ev.now _), hL⟩
 exact loop K.length 0 K.length (by omega) (by omega) (Nat.le_refl _) (fun j hj => by omega) (fun j hj hjl => by omega)
theorem lessI (K : List ByteArray) (key : ByteArray) (hK : K.length ≤ 1000000000) (hr : ∀ i, i < K.length → risesAt K i) : ∃ i : Nat, Ev (fun k => impl_less.f k K key) (i : Int) ∧ Lower K key i := by
 obtain ⟨i, b, h, hL⟩ := search K key hK hr
 exact ⟨i, ev_bind h (Ev.now _), hL⟩
theorem lessS (K V C : List ByteArray) (g : Int) (key : ByteArray) (i : Nat) (hK : K.length ≤ 1000000000) (hL : Lower K key i) : Ev (fun k => spec_l6Less.f k K V C g key) (i : Int) := by
 have key_ : ∀ (d j : Nat), j + d = i → Ev (fun k => spec_l6Less.l0 k key (j : Int) K V C g) (i : Int) := by
  intro d
  induction d with
  | zero =>
   intro j hj
   have hj' : j = i := by omega
   subst hj'
   by_cases hn : j < K.length
   ·have hx := hL.2.2 j (Nat.le_refl _) hn
    refine Ev.step (f := fun _ => some (j : Int)) (fun k => ?_) (Ev.now _)
    simp only [spec_l6Less.l0]
    rw [if_pos (by omega), if_pos (by omega), if_neg (by rw [show Op.bytesLess (rdOf ByteArray.empty K (j : Int)).toList key.toList = false from hx]; simp)]
   ·exact Ev.step (f := fun _ => some (j : Int)) (fun k => by simp only [spec_l6Less.l0]; rw [if_neg (by omega)]) (Ev.now _)
  | succ d ih =>
   intro j hj
   have hx := hL.2.1 j (by omega)
   have hn := hL.1
   refine Ev.step (f := fun k => spec_l6Less.l0 k key ((j + 1 : Nat) : Int) K V C g) (fun k => ?_) (ih (j + 1) (by omega))
   simp only [spec_l6Less.l0]
   rw [if_pos (by omega), if_pos (by omega), if_pos hx, w64 (x := (j : Int) + 1) (by omega) (by omega)]
   rfl
 exact key_ i 0 (by omega)
end Go.Proofs.Ytpbepgffbcfaoaa.PO
end
section
namespace Go.Proofs.Ytpbepgffbcfaoaa.PI
open Go.RowKit Go.Proofs.YtpbepgffbcfaoaaW.PrintWords Go.Proofs.YtpbepgffbcfaoaaW.PrintLast Go.Proofs.YtpbepgffbcfaoaaW.PrintMore Go.Proofs.Ytpbepgffbcfaoaa.PB Go.Proofs.Ytpbepgffbcfaoaa.PL Go.Proofs.Ytpbepgffbcfaoaa.PG
set_option linter.unusedVariables false
theorem sz_list2 {α : Type} (wt : α → Nat) (l : List α) (rf : List α → Int → α) (hrf : ∀ i (h : i < l.length), rf l (i : Int) = l[i]) (L0 : Nat → List α → Int → Int → Option Int) (F : Nat → List α → Int → Option Int) (e : Nat → α → Int → Option Int)
  (hstep : ∀ k R i, L0 (k + 1) l R i = if i < (l.length : Int) then (if 0 ≤ i then ((e k (rf l i) R).bind fun t => if t < 0 then some (-1) else L0 k l t (wrap64 (i + 1))) else none) else some R)
  (hF : ∀ k R, F k l R = if wrap64 (R - (l.length : Int)) < 0 then some (-1) else L0 k l (wrap64 (R - (l.length : Int))) 0)
  (he : ∀ x ∈ l, ∀ R, 0 ≤ R → R ≤ 1000000000 → Ev (fun k => e k x R) (left R (wt x))) (hl : l.length ≤ 9223372036854775807) (R : Int) (h0 : 0 ≤ R) (h1 : R ≤ 1000000000) :
  Ev (fun k => F k l R) (left R (l.length + wsum wt l)) := by
 have key : ∀ (d i : Nat) (R : Int), i + d = l.length → 0 ≤ R → R ≤ 1000000000 → l.length ≤ 1000000000000 → Ev (fun k => L0 k l R (i : Int)) (left R (wsum wt (l.drop i))) := by
  intro d
  induction d with
  | zero =>
   intro i R hi h0 h1 h2
   rw [List.drop_eq_nil_of_le (by omega)]
   refine Ev.step (f := fun _ => some R) (fun k => by rw [hstep, if_neg (by omega)]) ?_
   refine ev_eq (Ev.now R) ?_
   show R = left R 0
   unfold left
   rw [if_pos (by omega)]; omega
  | succ d ih =>
   intro i R hi h0 h1 h2
   have hlt : i < l.length := by omega
   have hx := he _ (List.getElem_mem hlt) R h0 h1
   rw [List.drop_eq_getElem_cons hlt, show wsum wt (l[i] :: l.drop (i + 1)) = wt l[i] + wsum wt (l.drop (i + 1)) from rfl]
   refine Ev.step (f := fun k => (e k l[i] R).bind fun t => if t < 0 then some (-1) else L0 k l t ((i + 1 : Nat) : Int)) (fun k => ?_) ?_
   ·rw [hstep, if_pos (by omega), if_pos (by omega), hrf i hlt, w64 (x := (i : Int) + 1) (by omega) (by omega)]; rfl
   ·refine ev_bind hx ?_
    by_cases hc : ((wt l[i] : Nat) : Int) ≤ R
    ·rw [left_yes hc]
     refine ev_neg (by omega) ?_
     refine ev_eq (ih (i + 1) (R - wt l[i]) (by omega) (by omega) (by omega) h2) (left_add hc)
    ·rw [left_no hc]
     refine ev_pos (by omega) (ev_eq (Ev.now _) ?_)
     unfold left
     rw [if_neg (by omega)]
 by_cases hc : (l.length : Int) ≤ R
 ·refine Ev.congr (f := fun k => L0 k l (R - l.length) ((0 : Nat) : Int)) (fun k => ?_) ?_
  ·rw [hF, w64 (x := R - (l.length : Int)) (by omega) (by omega), if_neg (by omega)]; rfl
  ·refine ev_eq (key l.length 0 (R - l.length) (by omega) (by omega) (by omega) (by omega)) ?_
   rw [List.drop_zero]; exact left_add hc
 ·refine Ev.congr (f := fun _ => some (-1)) (fun k => ?_) (ev_eq (Ev.now _) ?_)
  ·rw [hF, w64 (x := R - (l.length : Int)) (by omega) (by omega), if_pos (by omega)]
  ·unfold left; rw [if_neg (by omega)]
end Go.Proofs.Ytpbepgffbcfaoaa.PI
end
section
namespace Go.Proofs.Ytpbepgffbcfaoaa.Pure
open Go.RowKit Go.Proofs.YtpbepgffbcfaoaaW.PrintWords Go.Proofs.YtpbepgffbcfaoaaW.PrintLast Go.Proofs.YtpbepgffbcfaoaaW.PrintMore Go.Proofs.Ytpbepgffbcfaoaa.PB Go.Proofs.Ytpbepgffbcfaoaa.PD Go.Proofs.Ytpbepgffbcfaoaa.PK Go.Proofs.Ytpbepgffbcfaoaa.PL Go.Proofs.Ytpbepgffbcfaoaa.PT Go.Proofs.Ytpbepgffbcfaoaa.PU Go.Proofs.Ytpbepgffbcfaoaa.PG Go.Proofs.Ytpbepgffbcfaoaa.PW Go.Proofs.Ytpbepgffbcfaoaa.PO Go.Proofs.Ytpbepgffbcfaoaa.PA
set_option linter.unusedVariables false
theorem rdI_at (l : List S38) (i : Nat) (h : i < l.length) : rd_T38 l (i : Int) = l[i] := by
 simp [rd_T38, List.getD_eq_getElem?_getD, List.getElem?_eq_getElem h]
theorem rdL_at (l : List S61) (i : Nat) (h : i < l.length) : rd_T61 l (i : Int) = l[i] := by
 simp [rd_T61, List.getD_eq_getElem?_getD, List.getElem?_eq_getElem h]
def Sm (x : S38) : Prop := x.f0.length ≤ 2000000 ∧ x.f1.length ≤ 2000000 ∧ x.f2.length ≤ 2000000
def PageOk (x : S38) : Prop := pageOk x.f0 x.f1 x.f2 x.f3
theorem pageDig (x : S38) (h : PageOk x) : ∃ d, Ev (fun k => spec_l6Digest.f k x.f0 x.f1 x.f2 x.f3) d ∧ Ev (fun k => impl_Shown_digest.f k x.f0 x.f1 x.f2 x.f3) d := by
 obtain ⟨r, hr, hz⟩ := bytesS _ _ _ _ h
 exact ⟨dig 103 r, ev_bind hr (ev_bind (digS 103 k103 r (by omega)) (Ev.now _)), ev_bind (Ev.congr (fun k => bytes_eq k _ _ _ _) hr) (ev_bind (digI 103 k103 r (by omega)) (Ev.now _))⟩
def missT : ByteArray × Bool × Bool := (⟨#[]⟩, false, false)
theorem check_two (l : List S38) (key : ByteArray) (hl : l.length ≤ 2000000) (hp : ∀ i (h : i < l.length), PageOk l[i]) : ∀ (d i : Nat) (want : ByteArray), i + d = l.length → 1 ≤ d →
  ∃ r, Ev (fun k => spec_l6Check.l0 k key l want l (l.length : Int) (i : Int)) r ∧ Ev (fun k => impl_CheckKey.l0 k want key l l (l.length : Int) (i : Int)) r := by
 intro d
 induction d with
 | zero => intro i want hi h1; omega
 | succ d ih =>
  intro i want hi _
  have hlt : i < l.length := by omega
  have hok := hp i hlt
  have eq := rdI_at l i hlt
  obtain ⟨D, dS, dI⟩ := pageDig l[i] hok
  obtain ⟨h1, h2, h3, h4, h5, h6, h7⟩ := hok
  have hris : ∀ j, j < l[i].f0.length → risesAt l[i].f0 j := fun j hj => (h3 j hj).2
  obtain ⟨n, lI, hL⟩ := lessI l[i].f0 key (by omega) hris
  have lS := lessS l[i].f0 l[i].f1 l[i].f2 l[i].f3 key n (by omega) hL
  have hn := hL.1
  have wl : wrap64 ((l.length : Int) - 1) = (l.length : Int) - 1 := w64 (by omega) (by omega)
  have wi : wrap64 ((i : Int) + 1) = ((i + 1 : Nat) : Int) := by rw [w64 (by omega) (by omega)]; rfl
  -- whether the key is there
  obtain ⟨b, hb⟩ : ∃ b : Bool, b = decide (n < l[i].f0.length ∧ (tx l[i].f0 n).toList = key.toList) := ⟨_, rfl⟩
  have g1 : (i : Int) < (l.length : Int) := by omega
  have g2 : 0 ≤ (i : Int) := by omega
  have g3 : 0 ≤ (n : Int) := by omega
  -- the reference's first part
  have sS : ∀ {r}, Ev (fun k => spec_l6Check.j1 k key l want (i : Int) (n : Int) b l (l.length : Int) (i : Int) l[i].f0 l[i].f1 l[i].f2 l[i].f3) r → Ev (fun k => spec_l6Check.l0 k key l want l (l.length : Int) (i : Int)) r := by
   intro r hr
   refine Ev.step (f := fun k => (spec_l6Less.f k l[i].f0 l[i].f1 l[i].f2 l[i].f3 key).bind fun t => (if t < (l[i].f0.length : Int) then (if 0 ≤ t then (spec_l6Check.j1 k key l want (i : Int) t ((rdOf ByteArray.empty l[i].f0 t).toList == key.toList) l (l.length : Int) (i : Int) l[i].f0 l[i].f1 l[i].f2 l[i].f3) else (none)) else (spec_l6Check.j1 k key l want (i : Int) t false l (l.length : Int) (i : Int) l[i].f0 l[i].f1 l[i].f2 l[i].f3))) (fun k => ?_) ?_
   ·simp only [spec_l6Check.l0]
    rw [if_pos g1, if_pos g2, if_pos g1, eq]
   ·refine ev_bind lS ?_
    by_cases c : n < l[i].f0.length
    ·refine ev_pos (by omega) (ev_pos g3 ?_)
     have e : ((rdOf ByteArray.empty l[i].f0 (n : Int)).toList == key.toList) = b := by
      rw [hb]
      by_cases e : (tx l[i].f0 n).toList = key.toList
      ·rw [decide_eq_true ⟨c, e⟩]; exact beq_iff_eq.mpr e
      ·rw [decide_eq_false (fun h => e h.2)]; exact beq_eq_false_iff_ne.mpr e
     rw [e]; exact hr
    ·refine ev_neg (by omega) ?_
     have e : false = b := by rw [hb, decide_eq_false (fun h => c h.1)]
     rw [e]; exact hr
  obtain ⟨b2, hb2⟩ : ∃ b2 : Bool, b2 = decide (l[i].f3 < (l[i].f0.length : Int) ∧ (rdOf ByteArray.empty l[i].f0 l[i].f3).toList = key.toList) := ⟨_, rfl⟩
  have hat : impl_hasAt.f l[i].f0 l[i].f3 key = some b2 := by
   unfold impl_hasAt.f
   by_cases c : l[i].f3 < (l[i].f0.length : Int)
   ·rw [if_pos c, if_pos h7.1, hb2]
    by_cases e : (rdOf ByteArray.empty l[i].f0 l[i].f3).toList = key.toList
    ·rw [decide_eq_true ⟨c, e⟩]; exact congrArg some (beq_iff_eq.mpr e)
    ·rw [decide_eq_false (fun h => e h.2)]; exact congrArg some (beq_eq_false_iff_ne.mpr e)
   ·rw [if_neg c, hb2, decide_eq_false (fun h => c h.1)]
  have sI : ∀ {r}, Ev (fun k => (if D.toList = want.toList then (impl_CheckKey.j2 k key l (i : Int) b2 l (l.length : Int) (i : Int) (l[i].f3 != (n : Int)) l[i].f0 l[i].f1 l[i].f2 l[i].f3) else (impl_CheckKey.j2 k key l (i : Int) b2 l (l.length : Int) (i : Int) true l[i].f0 l[i].f1 l[i].f2 l[i].f3))) r → Ev (fun k => impl_CheckKey.l0 k want key l l (l.length : Int) (i : Int)) r := by
   intro r hr
   refine Ev.step (f := fun k => (impl_Shown_digest.f k l[i].f0 l[i].f1 l[i].f2 l[i].f3).bind fun t => (if t.toList = want.toList then ((impl_less.f k l[i].f0 key).bind fun u => (impl_CheckKey.j2 k key l (i : Int) b2 l (l.length : Int) (i : Int) (l[i].f3 != u) l[i].f0 l[i].f1 l[i].f2 l[i].f3)) else (impl_CheckKey.j2 k key l (i : Int) b2 l (l.length : Int) (i : Int) true l[i].f0 l[i].f1 l[i].f2 l[i].f3))) (fun k => ?_) ?_
   ·simp only [impl_CheckKey.l0]
    rw [if_pos g1, if_pos g2, if_pos g1, eq, hat]
    rfl
   ·refine ev_bind dI ?_
    by_cases c : D.toList = want.toList
    ·refine ev_pos c (ev_bind lI ?_)
     simp only [if_pos c] at hr
     exact hr
    ·simp only [if_neg c] at hr
     exact ev_neg c hr
  have noI : Ev (fun k => impl_CheckKey.j2 k key l (i : Int) b2 l (l.length : Int) (i : Int) true l[i].f0 l[i].f1 l[i].f2 l[i].f3) missT := Ev.step (f := fun _ => some missT) (fun k => by simp only [impl_CheckKey.j2]; rw [if_pos trivial]; rfl) (Ev.now _)
  have noS : ∀ la, Ev (fun k => spec_l6Check.j2 k key l want (n : Int) b la l (l.length : Int) (i : Int) true l[i].f0 l[i].f1 l[i].f2 l[i].f3) missT := fun la => Ev.step (f := fun _ => some missT) (fun k => by simp only [spec_l6Check.j2]; rw [if_pos trivial]; rfl) (Ev.now _)
  have jS : ∀ {r}, Ev (fun k => (if D.toList = want.toList then (if l[i].f3 = (n : Int) then (if ((i : Int) == (l.length : Int) - 1) = true then (if b = true then (spec_l6Check.j2 k key l want (n : Int) b ((i : Int) == (l.length : Int) - 1) l (l.length : Int) (i : Int) false l[i].f0 l[i].f1 l[i].f2 l[i].f3) else (spec_l6Check.j2 k key l want (n : Int) b ((i : Int) == (l.length : Int) - 1) l (l.length : Int) (i : Int) (decide ((l[i].f2.length : Int) > 0)) l[i].f0 l[i].f1 l[i].f2 l[i].f3)) else (if b = true then (spec_l6Check.j2 k key l want (n : Int) b ((i : Int) == (l.length : Int) - 1) l (l.length : Int) (i : Int) true l[i].f0 l[i].f1 l[i].f2 l[i].f3) else (if (l[i].f2.length : Int) = 0 then (spec_l6Check.j2 k key l want (n : Int) b ((i : Int) == (l.length : Int) - 1) l (l.length : Int) (i : Int) true l[i].f0 l[i].f1 l[i].f2 l[i].f3) else (spec_l6Check.j2 k key l want (n : Int) b ((i : Int) == (l.length : Int) - 1) l (l.length : Int) (i : Int) false l[i].f0 l[i].f1 l[i].f2 l[i].f3)))) else (spec_l6Check.j2 k key l want (n : Int) b ((i : Int) == (l.length : Int) - 1) l (l.length : Int) (i : Int) true l[i].f0 l[i].f1 l[i].f2 l[i].f3)) else (spec_l6Check.j2 k key l want (n : Int) b ((i : Int) == (l.length : Int) - 1) l (l.length : Int) (i : Int) true l[i].f0 l[i].f1 l[i].f2 l[i].f3))) r → Ev (fun k => spec_l6Check.l0 k key l want l (l.length : Int) (i : Int)) r := by
   intro r hr
   refine sS (Ev.step (f := fun k => _) (fun k => by simp only [spec_l6Check.j1]; rw [wl]) ?_)
   exact ev_bind dS hr
  by_cases c1 : D.toList = want.toList
  ·by_cases c2 : l[i].f3 = (n : Int)
   ·have eb : b2 = b := by
     rw [hb2, hb, c2]
     by_cases e : n < l[i].f0.length ∧ (tx l[i].f0 n).toList = key.toList
     ·rw [decide_eq_true e]; exact decide_eq_true ⟨by omega, e.2⟩
     ·rw [decide_eq_false e]; exact decide_eq_false (fun h => e ⟨by omega, h.2⟩)
    have eg : (l[i].f3 != (n : Int)) = false := bne_eq_false_iff_eq.mpr c2
    have sI2 : ∀ {r}, Ev (fun k => (if (i : Int) = (l.length : Int) - 1 then (impl_CheckKey.j3 k key l (i : Int) b l (l.length : Int) (i : Int) b l[i].f0 l[i].f1 l[i].f2 l[i].f3) else (impl_CheckKey.j3 k key l (i : Int) b l (l.length : Int) (i : Int) false l[i].f0 l[i].f1 l[i].f2 l[i].f3))) r → Ev (fun k => impl_CheckKey.l0 k want key l l (l.length : Int) (i : Int)) r := by
     intro r hr
     refine sI (ev_pos c1 ?_)
     rw [eb, eg]
     refine Ev.step (f := fun k => _) (fun k => by simp only [impl_CheckKey.j2]; rw [if_neg (by simp), wl]) ?_
     exact hr
    by_cases c3 : (i : Int) = (l.length : Int) - 1
    ·have e3 : ((i : Int) == (l.length : Int) - 1) = true := beq_iff_eq.mpr c3
     cases b with
     | true =>
      have hin := of_decide_eq_true hb.symm
      have hv : (n : Int) < (l[i].f1.length : Int) := by omega
      refine ⟨(rdOf ByteArray.empty l[i].f1 (n : Int), true, true), jS (ev_pos c1 (ev_pos c2 (ev_pos e3 (ev_pos rfl ?_)))), sI2 (ev_pos c3 ?_)⟩
      ·rw [e3]
       refine Ev.step (f := fun k => spec_l6Check.j3 k key l want (n : Int) true l (l.length : Int) (i : Int) true l[i].f0 l[i].f1 l[i].f2 l[i].f3) (fun k => by simp only [spec_l6Check.j2]; rw [if_neg (by simp), if_pos trivial]) ?_
       exact Ev.step (f := fun k => some (rdOf ByteArray.empty l[i].f1 (n : Int), true, true)) (fun k => by simp only [spec_l6Check.j3]; rw [if_pos trivial, if_pos g3, if_pos hv]) (Ev.now _)
      ·rw [c2]
       exact Ev.step (f := fun k => some (rdOf ByteArray.empty l[i].f1 (n : Int), true, true)) (fun k => by simp only [impl_CheckKey.j3]; rw [if_pos trivial, if_pos g3, if_pos hv]) (Ev.now _)
     | false =>
      have iI : Ev (fun k => impl_CheckKey.j3 k key l (i : Int) false l (l.length : Int) (i : Int) false l[i].f0 l[i].f1 l[i].f2 l[i].f3) (⟨#[]⟩, false, ((l[i].f2.length : Int) == 0)) :=
       Ev.step (f := fun k => some (⟨#[]⟩, false, ((l[i].f2.length : Int) == 0))) (fun k => by simp only [impl_CheckKey.j3]; rw [if_neg (by simp), wl, if_pos c3]) (Ev.now _)
      by_cases c4 : (l[i].f2.length : Int) > 0
      ·refine ⟨missT, jS (ev_pos c1 (ev_pos c2 (ev_pos e3 (ev_neg (by simp) ?_)))), sI2 (ev_pos c3 (ev_eq iI ?_))⟩
       ·rw [decide_eq_true c4]; exact noS _
       ·have : ((l[i].f2.length : Int) == 0) = false := beq_eq_false_iff_ne.mpr (by omega)
        rw [this]; rfl
      ·refine ⟨(⟨#[]⟩, false, true), jS (ev_pos c1 (ev_pos c2 (ev_pos e3 (ev_neg (by simp) ?_)))), sI2 (ev_pos c3 (ev_eq iI ?_))⟩
       ·rw [decide_eq_false c4, e3]
        refine Ev.step (f := fun k => spec_l6Check.j3 k key l want (n : Int) true l (l.length : Int) (i : Int) false l[i].f0 l[i].f1 l[i].f2 l[i].f3) (fun k => by simp only [spec_l6Check.j2]; rw [if_neg (by simp), if_pos trivial]) ?_
        refine Ev.step (f := fun k => spec_l6Check.l0 k key l want l (l.length : Int) ((i + 1 : Nat) : Int)) (fun k => by simp only [spec_l6Check.j3]; rw [if_neg (by simp), if_pos trivial, wi]) ?_
        exact Ev.step (f := fun k => some (⟨#[]⟩, false, true)) (fun k => by simp only [spec_l6Check.l0]; rw [if_neg (by omega)]) (Ev.now _)
       ·have : ((l[i].f2.length : Int) == 0) = true := beq_iff_eq.mpr (by omega)
        rw [this]
    ·have e3 : ((i : Int) == (l.length : Int) - 1) = false := beq_eq_false_iff_ne.mpr c3
     have n3 : ¬ ((i : Int) == (l.length : Int) - 1) = true := by rw [e3]; simp
     cases b with
     | true =>
      refine ⟨missT, jS (ev_pos c1 (ev_pos c2 (ev_neg n3 (ev_pos rfl (noS _))))), sI2 (ev_neg c3 ?_)⟩
      exact Ev.step (f := fun k => some missT) (fun k => by simp only [impl_CheckKey.j3]; rw [if_neg (by simp), wl, if_neg c3, if_pos trivial]; rfl) (Ev.now _)
     | false =>
      by_cases c4 : (l[i].f2.length : Int) = 0
      ·refine ⟨missT, jS (ev_pos c1 (ev_pos c2 (ev_neg n3 (ev_neg (by simp) (ev_pos c4 (noS _)))))), sI2 (ev_neg c3 ?_)⟩
       exact Ev.step (f := fun k => some missT) (fun k => by simp only [impl_CheckKey.j3]; rw [if_neg (by simp), wl, if_neg c3, if_neg (by simp), if_pos c4]; rfl) (Ev.now _)
      ·have hk : (n : Int) < (l[i].f2.length : Int) := by omega
       obtain ⟨r, r1, r2⟩ := ih (i + 1) (rdOf ByteArray.empty l[i].f2 (n : Int)) (by omega) (by omega)
       refine ⟨r, jS (ev_pos c1 (ev_pos c2 (ev_neg n3 (ev_neg (by simp) (ev_neg c4 ?_))))), sI2 (ev_neg c3 ?_)⟩
       ·rw [e3]
        refine Ev.step (f := fun k => spec_l6Check.j3 k key l want (n : Int) false l (l.length : Int) (i : Int) false l[i].f0 l[i].f1 l[i].f2 l[i].f3) (fun k => by simp only [spec_l6Check.j2]; rw [if_neg (by simp), if_neg (by simp)]) ?_
        exact Ev.step (f := fun k => spec_l6Check.l0 k key l (rdOf ByteArray.empty l[i].f2 (n : Int)) l (l.length : Int) ((i + 1 : Nat) : Int)) (fun k => by simp only [spec_l6Check.j3]; rw [if_neg (by simp), if_neg (by simp), if_pos g3, if_pos hk, wi]) r1
       ·rw [c2]
        exact Ev.step (f := fun k => impl_CheckKey.l0 k (rdOf ByteArray.empty l[i].f2 (n : Int)) key l l (l.length : Int) ((i + 1 : Nat) : Int)) (fun k => by simp only [impl_CheckKey.j3]; rw [if_neg (by simp), wl, if_neg c3, if_neg (by simp), if_neg c4, if_pos g3, if_pos hk, wi]) r2
   ·refine ⟨missT, jS (ev_pos c1 (ev_neg c2 (noS _))), sI (ev_pos c1 ?_)⟩
    rw [show (l[i].f3 != (n : Int)) = true from bne_iff_ne.mpr c2]
    exact noI
  ·exact ⟨missT, jS (ev_neg c1 (noS _)), sI (ev_neg c1 noI)⟩
theorem good_two (x : S38) (h : Sm x) : Ev (fun k => spec_GoodShown.f k x.f0 x.f1 x.f2 x.f3) (ch (PageOk x)) ∧ Ev (fun k => impl_GoodShown.f k x.f0 x.f1 x.f2 x.f3) (ch (PageOk x)) :=
 ⟨goodShownS _ _ _ _ h.1 h.2.1 h.2.2, goodShownI _ _ _ _ h.1 h.2.1 h.2.2⟩
theorem has_bad (l : List S38) (hl : l.length ≤ 2000000) (hs : ∀ x ∈ l, Sm x) : Ev (fun k => slices_ContainsFunc_impl_CheckKey_1.f k l) (l.any fun x => !ch (PageOk x)) := by
 obtain ⟨r, hr, e⟩ := idx_any l rd_T38 (fun i h => rdI_at l i h) slices_IndexFunc_impl_CheckKey_1.l0 (fun k x => impl_CheckKey_1.f k x.f0 x.f1 x.f2 x.f3) (fun x => !ch (PageOk x)) (fun k n i => rfl) (fun x hx => ev_bind (f := fun _ t => some (!t)) (good_two x (hs x hx)).2 (Ev.now _)) (by omega)
 rw [← e]
 exact ev_bind (f := fun _ t => some (decide (t ≥ 0))) hr (Ev.now _)
theorem checkKey_two (a : ByteArray) (key : ByteArray) (l : List S38) (hl : l.length ≤ 2000000) (hs : ∀ x ∈ l, Sm x) : ∃ r, Ev (fun k => spec_CheckKey.f k a key l) r ∧ Ev (fun k => impl_CheckKey.f k a key l) r := by
 have round : ∀ (r : ByteArray × Bool × Bool) i, i < l.length → PageOk (rd_T38 l (i : Int)) → Ev (fun k => spec_CheckKey.l0 k a key l l (l.length : Int) ((i + 1 : Nat) : Int)) r → Ev (fun k => spec_CheckKey.l0 k a key l l (l.length : Int) (i : Int)) r := by
  intro r i hi hq h
  have hg := (good_two (rd_T38 l (i : Int)) (by rw [rdI_at l i hi]; exact hs _ (List.getElem_mem hi))).1
  rw [ch_yes hq] at hg
  refine Ev.step (f := fun k => _) (fun k => by simp only [spec_CheckKey.l0]; rw [if_pos (by omega), if_pos (by omega), if_pos (by omega), w64 (x := (i : Int) + 1) (by omega) (by omega)]) ?_
  exact ev_bind hg (ev_pos rfl h)
 have yI : Ev (fun k => impl_CheckKey.j0 k a key l true) missT := Ev.step (f := fun _ => some missT) (fun k => by simp only [impl_CheckKey.j0]; rw [if_pos trivial]; rfl) (Ev.now _)
 have hbad := has_bad l hl hs
 by_cases hA : ∀ i, i < l.length → PageOk (rd_T38 l (i : Int))
 ·have hp : ∀ i (h : i < l.length), PageOk l[i] := fun i h => by have := hA i h; rw [rdI_at l i h] at this; exact this
  have ea : (l.any fun x => !ch (PageOk x)) = false := by
   rw [List.any_eq_false]
   intro x hx
   obtain ⟨j, hj, e⟩ := List.getElem_of_mem hx
   rw [← e, ch_yes (hp j hj)]; simp
  rw [ea] at hbad
  have fin : ∀ r, Ev (fun k => if (a.size : Int) = 4 then ((spec_l5Pair.f key (⟨#[]⟩ : ByteArray)).bind fun t333 => (if t333 = true then ((spec_l1In.f (l.length : Int) 1 10).bind fun t334 => (if t334 = true then ((spec_l6Check.f k a key l).bind fun bt335 => (some (bt335.1, bt335.2.1, bt335.2.2))) else (some ((⟨#[]⟩ : ByteArray), false, false)))) else (some ((⟨#[]⟩ : ByteArray), false, false)))) else (some ((⟨#[]⟩ : ByteArray), false, false))) r → Ev (fun k => spec_CheckKey.f k a key l) r := fun r hr =>
   loop_yes l.length (fun i k => spec_CheckKey.l0 k a key l l (l.length : Int) (i : Int)) _ r round (Ev.step (fun k => by simp only [spec_CheckKey.l0]; rw [if_neg (by omega)]) hr) hA
  by_cases c1 : a.size = 4
  ·cases c2 : keyB key with
   | false =>
    have e : (keyB key && valB (⟨#[]⟩ : ByteArray)) = false := by rw [c2]; rfl
    exact ⟨missT, fin _ (ev_pos (by omega) (ev_const (pairS key ⟨#[]⟩) (ev_neg (by simp [e]) (Ev.now _)))), ev_const (isDigI a) (ev_pos (decide_eq_true c1) (ev_const (keyI key) (ev_neg (by simp [c2]) yI)))⟩
   | true =>
    have e : (keyB key && valB (⟨#[]⟩ : ByteArray)) = true := by rw [c2]; rfl
    by_cases c3 : 1 ≤ (l.length : Int) ∧ (l.length : Int) ≤ 10
    ·obtain ⟨⟨x, y, z⟩, h1, h2⟩ := check_two l key hl hp l.length 0 a (by omega) (by omega)
     have h1' : Ev (fun k => spec_l6Check.f k a key l) (x, y, z) := h1
     refine ⟨(x, y, z), fin _ (ev_pos (by omega) (ev_const (pairS key ⟨#[]⟩) (ev_pos e (ev_const (inS _ _ _) (ev_pos (decide_eq_true c3) (ev_bind h1' (Ev.now _))))))), ev_const (isDigI a) (ev_pos (decide_eq_true c1) (ev_const (keyI key) (ev_pos c2 (ev_const (inI _ _ _) (ev_pos (decide_eq_true c3) (ev_bind hbad ?_))))))⟩
     exact Ev.step (f := fun k => impl_CheckKey.l0 k a key l l (l.length : Int) ((0 : Nat) : Int)) (fun k => by simp only [impl_CheckKey.j0]; rw [if_neg (by simp)]; rfl) h2
    ·exact ⟨missT, fin _ (ev_pos (by omega) (ev_const (pairS key ⟨#[]⟩) (ev_pos e (ev_const (inS _ _ _) (ev_neg (by simpa using c3) (Ev.now _)))))), ev_const (isDigI a) (ev_pos (decide_eq_true c1) (ev_const (keyI key) (ev_pos c2 (ev_const (inI _ _ _) (ev_neg (by simpa using c3) yI)))))⟩
  ·exact ⟨missT, fin _ (ev_neg (by omega) (Ev.now _)), ev_const (isDigI a) (ev_neg (by simp [c1]) yI)⟩
 ·have ea : (l.any fun x => !ch (PageOk x)) = true := by
   cases h : l.any fun x => !ch (PageOk x) with
   | true => rfl
   | false =>
    refine absurd (fun i hi => ?_) hA
    rw [List.any_eq_false] at h
    have := h _ (List.getElem_mem hi)
    rw [rdI_at l i hi]
    exact ch_true (by simpa using this)
  rw [ea] at hbad
  refine ⟨missT, loop_no l.length (fun i k => spec_CheckKey.l0 k a key l l (l.length : Int) (i : Int)) _ missT round (fun i hi hq => ?_) hA, ?_⟩
  ·have hg := (good_two (rd_T38 l (i : Int)) (by rw [rdI_at l i hi]; exact hs _ (List.getElem_mem hi))).1
   rw [ch_no hq] at hg
   refine Ev.step (f := fun k => _) (fun k => by simp only [spec_CheckKey.l0]; rw [if_pos (by omega), if_pos (by omega), if_pos (by omega)]) ?_
   exact ev_bind hg (ev_neg (by simp) (Ev.now _))
  ·refine ev_const (isDigI a) ?_
   by_cases c1 : a.size = 4
   ·refine ev_pos (decide_eq_true c1) (ev_const (keyI key) ?_)
    cases c2 : keyB key with
    | false => exact ev_neg (by simp) yI
    | true =>
     refine ev_pos rfl (ev_const (inI _ _ _) ?_)
     by_cases c3 : 1 ≤ (l.length : Int) ∧ (l.length : Int) ≤ 10
     ·exact ev_pos (decide_eq_true c3) (ev_bind hbad yI)
     ·exact ev_neg (by simpa using c3) yI
   ·exact ev_neg (by simp [c1]) yI
def wtP (x : S61) : Nat := total x.f0 + (total x.f1 + total x.f2)
def FitP (x : S61) : Prop := Fit x.f0 ∧ Fit x.f1 ∧ Fit x.f2
def convP (x : S61) : S38 := ⟨x.f0, x.f1, x.f2, x.f3⟩
theorem szPages (l : List S61) (hf : l.length ≤ 9223372036854775807 ∧ ∀ x ∈ l, FitP x) (R : Int) (h0 : 0 ≤ R) (h1 : R ≤ 1000000000) : Ev (fun k => laws_szShownS.f k l R) (left R (l.length + wsum wtP l)) :=
 PI.sz_list2 wtP l rd_T61 (fun i h => rdL_at l i h) laws_szShownS.l0 laws_szShownS.f (fun k x R => laws_szShown.f k x.f0 x.f1 x.f2 x.f3 R) (fun k R i => rfl) (fun k R => rfl)
  (fun x hx R h0 h1 => szShown _ _ _ _ (hf.2 x hx).1 (hf.2 x hx).2.1 (hf.2 x hx).2.2 R h0 h1) hf.1 R h0 h1
theorem small_pages (l : List S61) (h : l.length + wsum wtP l ≤ 1048576) : ∀ x ∈ l, x.f0.length ≤ 2000000 ∧ x.f1.length ≤ 2000000 ∧ x.f2.length ≤ 2000000 := by
 intro x hx
 have h1 := wsum_mem wtP l x hx
 have h2 : wtP x = (x.f0.length + szL x.f0) + ((x.f1.length + szL x.f1) + (x.f2.length + szL x.f2)) := rfl
 exact ⟨by omega, by omega, by omega⟩
theorem toPages (l : List S61) (hl : l.length ≤ 2000000) (hs : ∀ x ∈ l, x.f0.length ≤ 2000000 ∧ x.f1.length ≤ 2000000 ∧ x.f2.length ≤ 2000000) : Ev (fun k => laws_toShownS.f k l) (l.map convP) := by
 refine Ev.congr (f := fun k => laws_toShownS.l0 k l (List.replicate l.length z38) 0) (fun k => ?_) (to_list convP z38 l laws_toShownS.l0 hl (fun k out => ?_) (fun i h out ho r hr => ?_))
 ·simp only [laws_toShownS.f]
  rw [if_pos (by omega), if_pos (by omega)]
  rfl
 ·simp only [laws_toShownS.l0]; rw [if_neg (by omega)]
 ·have hx := hs _ (List.getElem_mem h)
  refine Ev.step (f := fun k => (laws_toShown.f k l[i].f0 l[i].f1 l[i].f2 l[i].f3).bind fun b => laws_toShownS.l0 k l (out.set i (⟨b.1, b.2.1, b.2.2.1, b.2.2.2⟩ : S38)) ((i + 1 : Nat) : Int)) (fun k => ?_) (ev_bind (toShown _ _ _ _ hx.1 hx.2.1 hx.2.2) hr)
  simp only [laws_toShownS.l0]
  rw [if_pos (by omega), if_pos (by omega), rdL_at l i h, w64 (x := (i : Int) + 1) (by omega) (by omega)]
  congr 1
  funext b
  rw [if_pos (by omega)]
  rfl
theorem eqPages (l : List S38) (hl : l.length ≤ 2000000) (hs : ∀ x ∈ l, Sm x) : Ev (fun k => laws_eqShownS.f k l l) true := by
 refine eq_list l laws_eqShownS.l0 laws_eqShownS.f (fun k => ?_) (fun k => ?_) (fun i h hr => ?_)
 ·simp only [laws_eqShownS.l0]; rw [if_neg (by omega)]
 ·simp only [laws_eqShownS.f]; rw [if_pos trivial]
 ·have hx := hs _ (List.getElem_mem h)
  refine Ev.step (f := fun k => (laws_eqShown.f k l[i].f0 l[i].f1 l[i].f2 l[i].f3 l[i].f0 l[i].f1 l[i].f2 l[i].f3).bind fun t => if t = true then laws_eqShownS.l0 k l l ((i + 1 : Nat) : Int) else some false) (fun k => ?_) (ev_bind (eqShown _ _ _ _ hx.1 hx.2.1 hx.2.2) (ev_pos rfl hr))
  simp only [laws_eqShownS.l0]
  rw [if_pos (by omega), if_pos (by omega), if_pos (by omega), rdI_at l i h, w64 (x := (i : Int) + 1) (by omega) (by omega)]
  rfl
theorem app_toList (a b : ByteArray) : (a ++ b).toList = a.toList ++ b.toList := by
 rw [ByteArray.toList_eq, ByteArray.toList_eq, ByteArray.toList_eq, ByteArray.data_append, Array.toList_append]
theorem app_inj {a b c d : ByteArray} (h : a ++ b = c ++ d) (hs : a.size = c.size) : a = c ∧ b = d := by
 have e := congrArg ByteArray.toList h
 rw [app_toList, app_toList] at e
 obtain ⟨e1, e2⟩ := List.append_inj e (by rw [size_toList, size_toList]; exact hs)
 exact ⟨ba_ext e1, ba_ext e2⟩
def one_ (n : Nat) : ByteArray := strOfNums [(n : Int) % 256]
theorem one_size (n : Nat) : (one_ n).size = 1 := by unfold one_; rw [strOfNums_size]; rfl
theorem one_inj {n m : Nat} (hn : n ≤ 255) (hm : m ≤ 255) (h : one_ n = one_ m) : n = m := by
 have e := congrArg ByteArray.toList h
 unfold one_ at e
 rw [ByteArray.toList_eq, ByteArray.toList_eq, strOfNums_data, strOfNums_data, show (n : Int) % 256 = (n : Int) by omega, show (m : Int) % 256 = (m : Int) by omega] at e
 simp only [List.map_cons, List.map_nil, List.cons.injEq, and_true, Int.toNat_natCast] at e
 have := congrArg UInt8.toNat e
 simp only [UInt8.toNat_ofNat'] at this
 omega
def kidsM : List ByteArray → ByteArray
 | [] => ⟨#[]⟩
 | c :: C => c ++ kidsM C
def pairsM : List ByteArray → List ByteArray → ByteArray
 | k :: K, v :: V => (one_ k.size ++ k ++ one_ v.size ++ v) ++ pairsM K V
 | _, _ => ⟨#[]⟩
def bytesM (K V C : List ByteArray) : ByteArray := one_ K.length ++ pairsM K V ++ (one_ C.length ++ kidsM C)
theorem app_empty (a : ByteArray) : a ++ (⟨#[]⟩ : ByteArray) = a := ByteArray.append_empty
theorem app_assoc (a b c : ByteArray) : a ++ b ++ c = a ++ (b ++ c) := ByteArray.append_assoc
theorem kidsV (C : List ByteArray) (hc : C.length ≤ 5) (h6 : all4 C = true) : ∀ (d i : Nat) (x : ByteArray), i + d = C.length → x.size ≤ 500 + 4 * i → Ev (fun k => spec_l6Bytes.l1 k x C (C.length : Int) (i : Int)) (x ++ kidsM (C.drop i)) := by
 intro d
 induction d with
 | zero =>
  intro i x hi hx
  rw [List.drop_eq_nil_of_le (by omega)]
  refine Ev.step (f := fun _ => some x) (fun k => ?_) (ev_eq (Ev.now _) (app_empty x).symm)
  simp only [spec_l6Bytes.l1]; rw [if_neg (by omega)]
 | succ d ih =>
  intro i x hi hx
  have hlt : i < C.length := by omega
  have hs : (rdOf ByteArray.empty C (i : Int)).size = 4 := of_decide_eq_true ((all_at C _).1 h6 i (by omega))
  have hr := ih (i + 1) (x ++ rdOf ByteArray.empty C (i : Int)) (by omega) (by rw [app_size]; omega)
  rw [List.drop_eq_getElem_cons hlt]
  refine Ev.step (f := fun k => spec_l6Bytes.l1 k (x ++ rdOf ByteArray.empty C (i : Int)) C (C.length : Int) ((i + 1 : Nat) : Int)) (fun k => ?_) (ev_eq hr ?_)
  ·simp only [spec_l6Bytes.l1]
   rw [if_pos (by omega), if_pos (by omega), if_pos (by omega), if_pos (by omega), w64 (x := (i : Int) + 1) (by omega) (by omega)]
   rfl
  ·rw [rdOf_at _ _ _ hlt, app_assoc]; rfl
theorem bytesV (K V C : List ByteArray) (g : Int) (h : pageOk K V C g) : Ev (fun k => spec_l6Bytes.f k K V C g) (bytesM K V C) := by
 obtain ⟨h1, h2, h3, h4, h5, h6, _⟩ := h
 have hc : C.length ≤ 5 := by omega
 have e1 : ∀ n : Int, (strOfNums [n % 256]).size = 1 := fun n => by rw [strOfNums_size]; rfl
 have pairs : ∀ (d i : Nat) (x : ByteArray), i + d = K.length → x.size ≤ 1 + 40 * i → Ev (fun k => spec_l6Bytes.l0 k x K (K.length : Int) (i : Int) K V C g) (x ++ pairsM (K.drop i) (V.drop i) ++ (one_ C.length ++ kidsM C)) := by
  intro d
  induction d with
  | zero =>
   intro i x hi hx
   have hr := kidsV C hc h6 C.length 0 (x ++ strOfNums [(C.length : Int) % 256]) (by omega) (by rw [app_size, e1]; omega)
   rw [List.drop_eq_nil_of_le (show K.length ≤ i by omega)]
   refine Ev.step (f := fun k => spec_l6Bytes.l1 k (x ++ strOfNums [(C.length : Int) % 256]) C (C.length : Int) ((0 : Nat) : Int)) (fun k => ?_) (ev_eq hr ?_)
   ·simp only [spec_l6Bytes.l0, Option.bind_some]
    rw [if_neg (by omega), if_pos (by rw [e1]; omega)]
    rfl
   ·rw [List.drop_zero, show pairsM [] (V.drop i) = (⟨#[]⟩ : ByteArray) from by unfold pairsM; rfl, app_empty, app_assoc]
    rfl
  | succ d ih =>
   intro i x hi hx
   have hlt : i < K.length := by omega
   have hlv : i < V.length := by omega
   have ks := of_decide_eq_true (h3 i (by omega)).1
   have vs := of_decide_eq_true ((all_at V _).1 h4 i (by omega))
   have ks' : (rdOf ByteArray.empty K (i : Int)).size ≤ 12 := by
    have : ((rdOf ByteArray.empty K (i : Int)).size : Int) ≤ 12 := ks.2
    omega
   have vs' : (rdOf ByteArray.empty V (i : Int)).size ≤ 12 := by omega
   have hr := ih (i + 1) (x ++ (strOfNums [((rdOf ByteArray.empty K (i : Int)).size : Int) % 256] ++ rdOf ByteArray.empty K (i : Int) ++ strOfNums [((rdOf ByteArray.empty V (i : Int)).size : Int) % 256] ++ rdOf ByteArray.empty V (i : Int))) (by omega) (by simp only [app_size, e1]; omega)
   rw [List.drop_eq_getElem_cons hlt, List.drop_eq_getElem_cons hlv]
   refine Ev.step (f := fun k => spec_l6Bytes.l0 k (x ++ (strOfNums [((rdOf ByteArray.empty K (i : Int)).size : Int) % 256] ++ rdOf ByteArray.empty K (i : Int) ++ strOfNums [((rdOf ByteArray.empty V (i : Int)).size : Int) % 256] ++ rdOf ByteArray.empty V (i : Int))) K (K.length : Int) ((i + 1 : Nat) : Int) K V C g) (fun k => ?_) (ev_eq hr ?_)
   ·simp only [spec_l6Bytes.l0, Option.bind_some]
    rw [if_pos (by omega), if_pos (by omega), if_pos (by omega), if_pos (by rw [e1]; omega), if_pos (by omega), if_pos (by simp only [app_size, e1]; omega), if_pos (by simp only [app_size, e1]; omega), if_pos (by simp only [app_size, e1]; omega), w64 (x := (i : Int) + 1) (by omega) (by omega)]
    rfl
   ·rw [rdOf_at _ _ _ hlt, rdOf_at _ _ _ hlv]
    exact congrArg (fun z => z ++ (one_ C.length ++ kidsM C)) (app_assoc x (one_ K[i].size ++ K[i] ++ one_ V[i].size ++ V[i]) (pairsM (K.drop (i + 1)) (V.drop (i + 1))))
 have hr := pairs K.length 0 (strOfNums [(K.length : Int) % 256]) (by omega) (by rw [e1]; omega)
 exact hr
theorem kids_inj : ∀ (C D : List ByteArray), (∀ c ∈ C, c.size = 4) → (∀ c ∈ D, c.size = 4) → C.length = D.length → kidsM C = kidsM D → C = D := by
 intro C
 induction C with
 | nil => intro D _ _ hl _; cases D with
  | nil => rfl
  | cons _ _ => simp at hl
 | cons c C ih =>
  intro D hc hd hl h
  cases D with
  | nil => simp at hl
  | cons d D =>
   obtain ⟨e1, e2⟩ := app_inj (show c ++ kidsM C = d ++ kidsM D from h) (by rw [hc c List.mem_cons_self, hd d List.mem_cons_self])
   rw [e1, ih D (fun x hx => hc x (List.mem_cons_of_mem _ hx)) (fun x hx => hd x (List.mem_cons_of_mem _ hx)) (by simpa using hl) e2]
theorem pairs_inj : ∀ (K V K' V' : List ByteArray) (r r' : ByteArray), (∀ c ∈ K, c.size ≤ 255) → (∀ c ∈ V, c.size ≤ 255) → (∀ c ∈ K', c.size ≤ 255) → (∀ c ∈ V', c.size ≤ 255) → V.length = K.length → V'.length = K'.length → K.length = K'.length → pairsM K V ++ r = pairsM K' V' ++ r' → K = K' ∧ V = V' ∧ r = r' := by
 intro K
 induction K with
 | nil =>
  intro V K' V' r r' _ _ _ _ hv hv' hk h
  have hK' : K' = [] := List.length_eq_zero_iff.mp (by simpa using hk.symm)
  subst hK'
  have hV : V = [] := List.length_eq_zero_iff.mp (by simpa using hv)
  have hV' : V' = [] := List.length_eq_zero_iff.mp (by simpa using hv')
  subst hV hV'
  exact ⟨rfl, rfl, (app_inj h rfl).2⟩
 | cons k K ih =>
  intro V K' V' r r' a1 a2 a3 a4 hv hv' hk h
  cases V with
  | nil => simp at hv
  | cons v V =>
   cases K' with
   | nil => simp at hk
   | cons k' K' =>
    cases V' with
    | nil => simp at hv'
    | cons v' V' =>
     have h' : one_ k.size ++ (k ++ (one_ v.size ++ (v ++ (pairsM K V ++ r)))) = one_ k'.size ++ (k' ++ (one_ v'.size ++ (v' ++ (pairsM K' V' ++ r')))) := by
      have h2 : (one_ k.size ++ k ++ one_ v.size ++ v) ++ pairsM K V ++ r = (one_ k'.size ++ k' ++ one_ v'.size ++ v') ++ pairsM K' V' ++ r' := h
      simpa only [app_assoc] using h2
     obtain ⟨e1, h'⟩ := app_inj h' (by rw [one_size, one_size])
     have s1 := one_inj (a1 k List.mem_cons_self) (a3 k' List.mem_cons_self) e1
     obtain ⟨e2, h'⟩ := app_inj h' s1
     obtain ⟨e3, h'⟩ := app_inj h' (by rw [one_size, one_size])
     have s3 := one_inj (a2 v List.mem_cons_self) (a4 v' List.mem_cons_self) e3
     obtain ⟨e4, h'⟩ := app_inj h' s3
     obtain ⟨f1, f2, f3⟩ := ih V K' V' r r' (fun x hx => a1 x (List.mem_cons_of_mem _ hx)) (fun x hx => a2 x (List.mem_cons_of_mem _ hx)) (fun x hx => a3 x (List.mem_cons_of_mem _ hx)) (fun x hx => a4 x (List.mem_cons_of_mem _ hx)) (by simpa using hv) (by simpa using hv') (by simpa using hk) h'
     exact ⟨by rw [e2, f1], by rw [e4, f2], f3⟩
theorem sizes {K : List ByteArray} {n : Nat} (h : ∀ i, i < K.length → (tx K i).size ≤ n) : ∀ c ∈ K, c.size ≤ n := by
 intro c hc
 obtain ⟨j, hj, e⟩ := List.getElem_of_mem hc
 have := h j hj
 unfold tx at this
 rw [rdOf_at _ _ _ hj, e] at this
 exact this
theorem bytes_inj {K V C K' V' C' : List ByteArray} {g g' : Int} (h : pageOk K V C g) (h' : pageOk K' V' C' g') (e : bytesM K V C = bytesM K' V' C') : K = K' ∧ V = V' ∧ C = C' := by
 obtain ⟨h1, h2, h3, h4, h5, h6, _⟩ := h
 obtain ⟨i1, i2, i3, i4, i5, i6, _⟩ := h'
 unfold bytesM at e
 rw [app_assoc, app_assoc] at e
 obtain ⟨e1, e⟩ := app_inj e (by rw [one_size, one_size])
 have s1 := one_inj (by omega) (by omega) e1
 have ksz : ∀ {K : List ByteArray}, (∀ i, i < K.length → keyB (tx K i) = true ∧ risesAt K i) → ∀ c ∈ K, c.size ≤ 255 := fun {K} hk => sizes (fun i hi => by have := (of_decide_eq_true (hk i hi).1).2; omega)
 have vsz : ∀ {V : List ByteArray}, V.all valB = true → ∀ c ∈ V, c.size ≤ 255 := fun {V} hv => sizes (fun i hi => by have : ((tx V i).size : Int) ≤ 12 := of_decide_eq_true ((all_at V _).1 hv i hi); omega)
 obtain ⟨f1, f2, f3⟩ := pairs_inj K V K' V' _ _ (ksz h3) (vsz h4) (ksz i3) (vsz i4) h2 i2 s1 e
 obtain ⟨e3, e4⟩ := app_inj f3 (by rw [one_size, one_size])
 have s3 := one_inj (by omega) (by omega) e3
 exact ⟨f1, f2, kids_inj C C' ((all4_iff C).1 h6) ((all4_iff C').1 i6) s3 e4⟩
theorem equalV (l m : List ByteArray) (hl : l.length ≤ 2000000) : Ev (fun k => slices_Equal_string_string.f k l m) (decide (l = m)) := by
 by_cases hn : l.length = m.length
 ·have key : ∀ (d i : Nat), i + d = l.length → Ev (fun k => slices_Equal_string_string.l0 k l m (l.length : Int) (i : Int)) (decide (l.drop i = m.drop i)) := by
   intro d
   induction d with
   | zero =>
    intro i hi
    rw [List.drop_eq_nil_of_le (show l.length ≤ i by omega), List.drop_eq_nil_of_le (show m.length ≤ i by omega)]
    refine Ev.step (f := fun _ => some true) (fun k => ?_) (ev_eq (Ev.now _) (by simp))
    simp only [slices_Equal_string_string.l0]; rw [if_neg (by omega)]
   | succ d ih =>
    intro i hi
    have h1 : i < l.length := by omega
    have h2 : i < m.length := by omega
    rw [List.drop_eq_getElem_cons h1, List.drop_eq_getElem_cons h2]
    refine Ev.step (f := fun k => if l[i].toList = m[i].toList then slices_Equal_string_string.l0 k l m (l.length : Int) ((i + 1 : Nat) : Int) else some false) (fun k => ?_) ?_
    ·simp only [slices_Equal_string_string.l0]
     rw [if_pos (by omega), if_pos (by omega), if_pos (by omega), if_pos (by omega), rdOf_at _ _ _ h1, rdOf_at _ _ _ h2, w64 (x := (i : Int) + 1) (by omega) (by omega)]
     rfl
    ·by_cases c : l[i].toList = m[i].toList
     ·have e := ba_ext c
      refine ev_pos c (ev_eq (ih (i + 1) (by omega)) ?_)
      simp only [e, List.cons.injEq, true_and]
     ·refine ev_neg c (ev_eq (Ev.now _) ?_)
      symm
      rw [decide_eq_false_iff_not]
      intro h
      injection h with h _
      exact c (by rw [h])
  refine Ev.congr (f := fun k => slices_Equal_string_string.l0 k l m (l.length : Int) ((0 : Nat) : Int)) (fun k => ?_) (key l.length 0 (by omega))
  unfold slices_Equal_string_string.f
  rw [if_pos (by omega)]
  rfl
 ·refine Ev.congr (f := fun _ => some false) (fun k => ?_) (ev_eq (Ev.now _) ?_)
  ·unfold slices_Equal_string_string.f
   rw [if_neg (by omega)]
  ·symm
   rw [decide_eq_false_iff_not]
   intro h
   exact hn (by rw [h])
theorem digV (x : S38) (h : PageOk x) : Ev (fun k => spec_l6Digest.f k x.f0 x.f1 x.f2 x.f3) (dig 103 (bytesM x.f0 x.f1 x.f2)) ∧ Ev (fun k => impl_Shown_digest.f k x.f0 x.f1 x.f2 x.f3) (dig 103 (bytesM x.f0 x.f1 x.f2)) := by
 obtain ⟨r, hr, hz⟩ := bytesS _ _ _ _ h
 have e := ev_unique hr (bytesV _ _ _ _ h)
 subst e
 exact ⟨ev_bind hr (ev_bind (digS 103 k103 _ (by omega)) (Ev.now _)), ev_bind (Ev.congr (fun k => bytes_eq k _ _ _ _) hr) (ev_bind (digI 103 k103 _ (by omega)) (Ev.now _))⟩
theorem likeV (x y : S38) (hx : PageOk x) (hy : PageOk y) : Ev (fun k => impl_Shown_isLike.f k x.f0 x.f1 x.f2 x.f3 y.f0 y.f1 y.f2 y.f3) (decide (bytesM x.f0 x.f1 x.f2 = bytesM y.f0 y.f1 y.f2)) := by
 have hx' := hx
 obtain ⟨h1, h2, _, _, h5, _⟩ := hx
 by_cases e : bytesM x.f0 x.f1 x.f2 = bytesM y.f0 y.f1 y.f2
 ·rw [decide_eq_true e]
  obtain ⟨e1, e2, e3⟩ := bytes_inj hx' hy e
  have q1 := equalV x.f0 y.f0 (by omega)
  have q2 := equalV x.f1 y.f1 (by omega)
  have q3 := equalV x.f2 y.f2 (by omega)
  rw [decide_eq_true e1] at q1
  rw [decide_eq_true e2] at q2
  rw [decide_eq_true e3] at q3
  exact ev_bind q1 (ev_pos rfl (ev_bind q2 (ev_pos rfl (ev_bind q3 (Ev.now _)))))
 ·rw [decide_eq_false e]
  have q1 := equalV x.f0 y.f0 (by omega)
  have q2 := equalV x.f1 y.f1 (by omega)
  have q3 := equalV x.f2 y.f2 (by omega)
  by_cases e1 : x.f0 = y.f0
  ·rw [decide_eq_true e1] at q1
   by_cases e2 : x.f1 = y.f1
   ·rw [decide_eq_true e2] at q2
    have e3 : ¬ x.f2 = y.f2 := fun e3 => e (by rw [e1, e2, e3])
    rw [decide_eq_false e3] at q3
    exact ev_bind q1 (ev_pos rfl (ev_bind q2 (ev_pos rfl (ev_bind q3 (Ev.now _)))))
   ·rw [decide_eq_false e2] at q2
    exact ev_bind q1 (ev_pos rfl (ev_bind q2 (ev_neg (by simp) (Ev.now _))))
  ·rw [decide_eq_false e1] at q1
   exact ev_bind q1 (ev_neg (by simp) (Ev.now _))
abbrev Ans9 := List ByteArray × List ByteArray × List ByteArray × Int × List ByteArray × List ByteArray × List ByteArray × Int × Bool
def none9 : Ans9 := ([], [], [], 0, [], [], [], 0, false)
def both9 (x y : S38) : Ans9 := (x.f0, x.f1, x.f2, x.f3, y.f0, y.f1, y.f2, y.f3, true)
def found (x y : S38) : Bool := !decide (bytesM x.f0 x.f1 x.f2 = bytesM y.f0 y.f1 y.f2) && decide (dig 103 (bytesM x.f0 x.f1 x.f2) = dig 103 (bytesM y.f0 y.f1 y.f2))
def pickM : List S38 → List S38 → Ans9
 | x :: l, y :: m => if found x y = true then both9 x y else pickM l m
 | _, _ => none9
theorem pickM_nil (l : List S38) : pickM l [] = none9 := by cases l <;> rfl
theorem ownV (x : S38) (h : Sm x) : spec_l6Own.f x.f0 x.f1 x.f2 x.f3 = some (x.f0, x.f1, x.f2, x.f3) := by
 obtain ⟨h1, h2, h3⟩ := h
 unfold spec_l6Own.f
 simp only [Option.bind_some]
 rw [if_pos (by simp only [List.length_nil]; omega), if_pos (by simp only [List.length_nil]; omega), if_pos (by simp only [List.length_nil]; omega)]
 rfl
theorem clone_ (m : List ByteArray) (hm : m.length ≤ 2000000) : slices_Clone_string_string.f m = some m := by
 unfold slices_Clone_string_string.f
 simp only [Option.bind_some]
 rw [if_pos (by simp only [List.length_nil]; omega)]
 rfl
theorem copiedV (x : S38) (h : Sm x) : impl_Shown_copied.f x.f0 x.f1 x.f2 x.f3 = some (x.f0, x.f1, x.f2, x.f3) := by
 obtain ⟨h1, h2, h3⟩ := h
 unfold impl_Shown_copied.f
 rw [clone_ _ h1, clone_ _ h2, clone_ _ h3]
 rfl
theorem drop_nil_of {α : Type} (l : List α) (i : Nat) (h : l.length ≤ i) : l.drop i = [] := List.drop_eq_nil_of_le h
theorem pickS (l m : List S38) (hl : l.length ≤ 2000000) (hs : ∀ x ∈ l, Sm x) (hs' : ∀ x ∈ m, Sm x) (hp : ∀ i (h : i < l.length), PageOk l[i]) (hq : ∀ i (h : i < m.length), PageOk m[i]) : ∀ (d i : Nat), i + d = l.length →
  Ev (fun k => spec_UnlikeShown.l0 k l m (l.length : Int) (i : Int)) (pickM (l.drop i) (m.drop i)) := by
 intro d
 induction d with
 | zero =>
  intro i hi
  rw [drop_nil_of l i (by omega)]
  refine Ev.step (f := fun _ => some none9) (fun k => ?_) (Ev.now _)
  simp only [spec_UnlikeShown.l0]; rw [if_neg (by omega)]; rfl
 | succ d ih =>
  intro i hi
  have h1 : i < l.length := by omega
  have next := ih (i + 1) (by omega)
  have st : ∀ {r}, Ev (fun k => spec_UnlikeShown.l0 k l m (l.length : Int) ((i + 1 : Nat) : Int)) r → Ev (fun k => spec_UnlikeShown.j2 k l m (i : Int) (l.length : Int) (i : Int) false) r := fun h => Ev.step (fun k => by simp only [spec_UnlikeShown.j2]; rw [if_neg (by simp), w64 (x := (i : Int) + 1) (by omega) (by omega)]; rfl) h
  by_cases h2 : i < m.length
  ·have px := hp i h1
   have py := hq i h2
   have sx := hs _ (List.getElem_mem h1)
   have sy := hs' _ (List.getElem_mem h2)
   rw [List.drop_eq_getElem_cons h1, List.drop_eq_getElem_cons h2]
   refine Ev.step (f := fun k => (spec_l6Bytes.f k l[i].f0 l[i].f1 l[i].f2 l[i].f3).bind fun t => (spec_l6Bytes.f k m[i].f0 m[i].f1 m[i].f2 m[i].f3).bind fun u => if t.toList = u.toList then spec_UnlikeShown.j2 k l m (i : Int) (l.length : Int) (i : Int) false else (spec_l6Digest.f k l[i].f0 l[i].f1 l[i].f2 l[i].f3).bind fun a => (spec_l6Digest.f k m[i].f0 m[i].f1 m[i].f2 m[i].f3).bind fun b => spec_UnlikeShown.j2 k l m (i : Int) (l.length : Int) (i : Int) (a.toList == b.toList)) (fun k => ?_) ?_
   ·simp only [spec_UnlikeShown.l0]
    rw [if_pos (by omega), if_pos (by omega), if_pos (by omega), if_pos (by omega), rdI_at l i h1, rdI_at m i h2]
   ·refine ev_bind (bytesV _ _ _ _ px) (ev_bind (bytesV _ _ _ _ py) ?_)
    show Ev _ (if found l[i] m[i] = true then both9 l[i] m[i] else pickM (l.drop (i + 1)) (m.drop (i + 1)))
    unfold found
    by_cases e : bytesM l[i].f0 l[i].f1 l[i].f2 = bytesM m[i].f0 m[i].f1 m[i].f2
    ·refine ev_pos (by rw [e]) ?_
     rw [decide_eq_true e, if_neg (by simp)]
     exact st next
    ·refine ev_neg (fun h => e (ba_ext h)) (ev_bind (digV _ px).1 (ev_bind (digV _ py).1 ?_))
     rw [decide_eq_false e, ba_beq]
     by_cases f : dig 103 (bytesM l[i].f0 l[i].f1 l[i].f2) = dig 103 (bytesM m[i].f0 m[i].f1 m[i].f2)
     ·rw [decide_eq_true f, if_pos (by rfl)]
      refine Ev.step (f := fun _ => some (both9 l[i] m[i])) (fun k => ?_) (Ev.now _)
      simp only [spec_UnlikeShown.j2]
      rw [if_pos trivial, if_pos (by omega), if_pos (by omega), rdI_at l i h1, rdI_at m i h2, ownV _ sx, ownV _ sy]
      simp only [Option.bind_some]
      rw [if_pos (by omega)]
      rfl
     ·rw [decide_eq_false f, if_neg (by simp)]
      exact st next
  ·rw [drop_nil_of m i (by omega), pickM_nil]
   rw [drop_nil_of m (i + 1) (by omega), pickM_nil] at next
   refine Ev.step (f := fun k => spec_UnlikeShown.j2 k l m (i : Int) (l.length : Int) (i : Int) false) (fun k => ?_) (st next)
   simp only [spec_UnlikeShown.l0]
   rw [if_pos (by omega), if_neg (by omega)]
theorem pickI (l m : List S38) (hl : l.length ≤ 2000000) (hs : ∀ x ∈ l, Sm x) (hs' : ∀ x ∈ m, Sm x) (hp : ∀ i (h : i < l.length), PageOk l[i]) (hq : ∀ i (h : i < m.length), PageOk m[i]) (n : Nat) (hn1 : n ≤ l.length) (hn2 : n ≤ m.length) (hn : n = l.length ∨ n = m.length) : ∀ (d i : Nat), i + d = n →
  Ev (fun k => impl_UnlikeShown.l0 k l m (n : Int) (i : Int)) (pickM (l.drop i) (m.drop i)) := by
 intro d
 induction d with
 | zero =>
  intro i hi
  refine Ev.step (f := fun _ => some none9) (fun k => ?_) (ev_eq (Ev.now _) ?_)
  ·simp only [impl_UnlikeShown.l0]; rw [if_neg (by omega)]; rfl
  ·rcases hn with h | h
   ·rw [drop_nil_of l i (by omega)]; rfl
   ·rw [drop_nil_of m i (by omega), pickM_nil]
 | succ d ih =>
  intro i hi
  have h1 : i < l.length := by omega
  have h2 : i < m.length := by omega
  have next := ih (i + 1) (by omega)
  have st : ∀ {r}, Ev (fun k => impl_UnlikeShown.l0 k l m (n : Int) ((i + 1 : Nat) : Int)) r → Ev (fun k => impl_UnlikeShown.j2 k l m (i : Int) (n : Int) (i : Int) false) r := fun h => Ev.step (fun k => by simp only [impl_UnlikeShown.j2]; rw [if_neg (by simp), w64 (x := (i : Int) + 1) (by omega) (by omega)]; rfl) h
  have px := hp i h1
  have py := hq i h2
  have sx := hs _ (List.getElem_mem h1)
  have sy := hs' _ (List.getElem_mem h2)
  rw [List.drop_eq_getElem_cons h1, List.drop_eq_getElem_cons h2]
  refine Ev.step (f := fun k => (impl_Shown_isLike.f k l[i].f0 l[i].f1 l[i].f2 l[i].f3 m[i].f0 m[i].f1 m[i].f2 m[i].f3).bind fun t => if t = true then impl_UnlikeShown.j2 k l m (i : Int) (n : Int) (i : Int) false else (impl_Shown_digest.f k l[i].f0 l[i].f1 l[i].f2 l[i].f3).bind fun a => (impl_Shown_digest.f k m[i].f0 m[i].f1 m[i].f2 m[i].f3).bind fun b => impl_UnlikeShown.j2 k l m (i : Int) (n : Int) (i : Int) (a.toList == b.toList)) (fun k => ?_) ?_
  ·simp only [impl_UnlikeShown.l0]
   rw [if_pos (by omega), if_pos (by omega), if_pos (by omega), if_pos (by omega), rdI_at l i h1, rdI_at m i h2]
  ·refine ev_bind (likeV _ _ px py) ?_
   show Ev _ (if found l[i] m[i] = true then both9 l[i] m[i] else pickM (l.drop (i + 1)) (m.drop (i + 1)))
   unfold found
   by_cases e : bytesM l[i].f0 l[i].f1 l[i].f2 = bytesM m[i].f0 m[i].f1 m[i].f2
   ·refine ev_pos (decide_eq_true e) ?_
    rw [decide_eq_true e, if_neg (by simp)]
    exact st next
   ·refine ev_neg (by simp [e]) (ev_bind (digV _ px).2 (ev_bind (digV _ py).2 ?_))
    rw [decide_eq_false e, ba_beq]
    by_cases f : dig 103 (bytesM l[i].f0 l[i].f1 l[i].f2) = dig 103 (bytesM m[i].f0 m[i].f1 m[i].f2)
    ·rw [decide_eq_true f, if_pos (by rfl)]
     refine Ev.step (f := fun _ => some (both9 l[i] m[i])) (fun k => ?_) (Ev.now _)
     simp only [impl_UnlikeShown.j2]
     rw [if_pos trivial, if_pos (by omega), if_pos (by omega), rdI_at l i h1, rdI_at m i h2, copiedV _ sx, copiedV _ sy]
     simp only [Option.bind_some]
     rw [if_pos (by omega)]
     rfl
    ·rw [decide_eq_false f, if_neg (by simp)]
     exact st next
theorem checkKey_good (a : ByteArray) (key : ByteArray) (l : List S38) (hl : l.length ≤ 2000000) (hs : ∀ x ∈ l, Sm x) (r : ByteArray × Bool × Bool) (h : Ev (fun k => impl_CheckKey.f k a key l) r) (hr : r.2.2 = true) : ∀ i (h : i < l.length), PageOk l[i] := by
 apply Classical.byContradiction
 intro hA
 have ea : (l.any fun x => !ch (PageOk x)) = true := by
  cases h : l.any fun x => !ch (PageOk x) with
  | true => rfl
  | false =>
   refine absurd (fun i hi => ?_) hA
   rw [List.any_eq_false] at h
   have := h _ (List.getElem_mem hi)
   exact ch_true (by simpa using this)
 have hbad := has_bad l hl hs
 rw [ea] at hbad
 have yI : Ev (fun k => impl_CheckKey.j0 k a key l true) missT := Ev.step (f := fun _ => some missT) (fun k => by simp only [impl_CheckKey.j0]; rw [if_pos trivial]; rfl) (Ev.now _)
 have hm : Ev (fun k => impl_CheckKey.f k a key l) missT := by
  refine ev_const (isDigI a) ?_
  by_cases c1 : a.size = 4
  ·refine ev_pos (decide_eq_true c1) (ev_const (keyI key) ?_)
   cases c2 : keyB key with
   | false => exact ev_neg (by simp) yI
   | true =>
    refine ev_pos rfl (ev_const (inI _ _ _) ?_)
    by_cases c3 : 1 ≤ (l.length : Int) ∧ (l.length : Int) ≤ 10
    ·exact ev_pos (decide_eq_true c3) (ev_bind hbad yI)
    ·exact ev_neg (by simpa using c3) yI
  ·exact ev_neg (by simp [c1]) yI
 rw [ev_unique h hm] at hr
 cases hr
def Sm9 (r : Ans9) : Prop := (r.1.length ≤ 2000000 ∧ r.2.1.length ≤ 2000000 ∧ r.2.2.1.length ≤ 2000000) ∧ (r.2.2.2.2.1.length ≤ 2000000 ∧ r.2.2.2.2.2.1.length ≤ 2000000 ∧ r.2.2.2.2.2.2.1.length ≤ 2000000)
theorem none9_sm : Sm9 none9 := ⟨⟨by simp [none9], by simp [none9], by simp [none9]⟩, ⟨by simp [none9], by simp [none9], by simp [none9]⟩⟩
theorem pickM_sm : ∀ (l m : List S38), (∀ x ∈ l, Sm x) → (∀ x ∈ m, Sm x) → Sm9 (pickM l m) := by
 intro l
 induction l with
 | nil => intro m _ _; exact none9_sm
 | cons x l ih =>
  intro m h1 h2
  cases m with
  | nil => exact none9_sm
  | cons y m =>
   show Sm9 (if found x y = true then both9 x y else pickM l m)
   split
   ·exact ⟨h1 x List.mem_cons_self, h2 y List.mem_cons_self⟩
   ·exact ih m (fun z hz => h1 z (List.mem_cons_of_mem _ hz)) (fun z hz => h2 z (List.mem_cons_of_mem _ hz))
theorem unlike_two (a key : ByteArray) (l m : List S38) (hl : l.length ≤ 2000000) (hm : m.length ≤ 2000000) (hs : ∀ x ∈ l, Sm x) (hs' : ∀ x ∈ m, Sm x) :
  ∃ r, Ev (fun k => spec_UnlikeShown.f k a key l m) r ∧ Ev (fun k => impl_UnlikeShown.f k a key l m) r ∧ Sm9 r := by
 obtain ⟨⟨x1, x2, x3⟩, s1, i1⟩ := checkKey_two a key l hl hs
 obtain ⟨⟨y1, y2, y3⟩, s2, i2⟩ := checkKey_two a key m hm hs'
 have g1 := checkKey_good a key l hl hs _ i1
 have g2 := checkKey_good a key m hm hs' _ i2
 have nS : Ev (fun k => spec_UnlikeShown.j0 k l m true) none9 := Ev.step (f := fun _ => some none9) (fun k => by simp only [spec_UnlikeShown.j0]; rw [if_pos trivial]; rfl) (Ev.now _)
 have nI : Ev (fun k => impl_UnlikeShown.j0 k l m true) none9 := Ev.step (f := fun _ => some none9) (fun k => by simp only [impl_UnlikeShown.j0]; rw [if_pos trivial]; rfl) (Ev.now _)
 cases x3 with
 | false => exact ⟨none9, ev_bind s1 (ev_bind s2 (ev_neg (by simp) nS)), ev_bind i1 (ev_bind i2 (ev_neg (by simp) nI)), none9_sm⟩
 | true =>
  cases y3 with
  | false => exact ⟨none9, ev_bind s1 (ev_bind s2 (ev_pos rfl (ev_neg (by simp) nS))), ev_bind i1 (ev_bind i2 (ev_pos rfl (ev_neg (by simp) nI))), none9_sm⟩
  | true =>
   have hp := g1 rfl
   have hq := g2 rfl
   have pS : Ev (fun k => spec_UnlikeShown.j0 k l m false) (pickM l m) := Ev.step (f := fun k => spec_UnlikeShown.l0 k l m (l.length : Int) ((0 : Nat) : Int)) (fun k => by simp only [spec_UnlikeShown.j0]; rw [if_neg (by simp)]; rfl) (pickS l m hl hs hs' hp hq l.length 0 (by omega))
   have pI : Ev (fun k => impl_UnlikeShown.j0 k l m false) (pickM l m) := by
    obtain ⟨n, e, n1, n2, n3⟩ : ∃ n : Nat, mn (l.length : Int) (m.length : Int) = (n : Int) ∧ n ≤ l.length ∧ n ≤ m.length ∧ (n = l.length ∨ n = m.length) := by
     unfold mn
     by_cases h : (m.length : Int) < (l.length : Int)
     ·exact ⟨m.length, by rw [if_pos h], by omega, Nat.le_refl _, Or.inr rfl⟩
     ·exact ⟨l.length, by rw [if_neg h], Nat.le_refl _, by omega, Or.inl rfl⟩
    exact Ev.step (f := fun k => impl_UnlikeShown.l0 k l m (n : Int) ((0 : Nat) : Int)) (fun k => by simp only [impl_UnlikeShown.j0]; rw [if_neg (by simp), e]; rfl) (pickI l m hl hs hs' hp hq n n1 n2 n3 n 0 (by omega))
   have hsm := pickM_sm l m hs hs'
   by_cases c : (x2 == y2) = true
   ·cases c2 : (x1.toList == y1.toList) with
    | true => exact ⟨none9, ev_bind s1 (ev_bind s2 (ev_pos rfl (ev_pos rfl (ev_pos c (by rw [c2]; exact nS))))), ev_bind i1 (ev_bind i2 (ev_pos rfl (ev_pos rfl (ev_pos c (by rw [c2]; exact nI))))), none9_sm⟩
    | false => exact ⟨pickM l m, ev_bind s1 (ev_bind s2 (ev_pos rfl (ev_pos rfl (ev_pos c (by rw [c2]; exact pS))))), ev_bind i1 (ev_bind i2 (ev_pos rfl (ev_pos rfl (ev_pos c (by rw [c2]; exact pI))))), hsm⟩
   ·exact ⟨pickM l m, ev_bind s1 (ev_bind s2 (ev_pos rfl (ev_pos rfl (ev_neg c pS)))), ev_bind i1 (ev_bind i2 (ev_pos rfl (ev_pos rfl (ev_neg c pI)))), hsm⟩
theorem markShownV (K V C : List ByteArray) (g : Int) (a : Nat) (hK : K.length ≤ 2000000) (hV : V.length ≤ 2000000) (hC : C.length ≤ 2000000) (ha : a ≤ 100000000) :
  Ev (fun k => laws_markShown.f k K V C g (a : Int)) (((a + K.length + V.length + C.length : Nat) : Int), marks a K.length, marks (a + K.length) V.length, marks (a + K.length + V.length) C.length) :=
 ev_bind (markS K a (by omega) (by omega)) (ev_bind (markS V (a + K.length) (by omega) (by omega)) (ev_bind (markS C (a + K.length + V.length) (by omega) (by omega)) (Ev.now _)))
theorem heldShownV (n0 n1 n2 : Nat) (g : Int) (a : Nat) (h0 : n0 ≤ 2000000) (h1 : n1 ≤ 2000000) (h2 : n2 ≤ 2000000) (ha : a ≤ 100000000) :
  Ev (fun k => laws_heldShown.f k (marks a n0) (marks (a + n0) n1) (marks (a + n0 + n1) n2) g (a : Int)) ((a + n0 + n1 + n2 : Nat) : Int) :=
 ev_bind (heldS n0 a (by omega) (by omega)) (ev_neg (by omega) (ev_bind (heldS n1 (a + n0) (by omega) (by omega)) (ev_neg (by omega) (ev_bind (heldS n2 (a + n0 + n1) (by omega) (by omega)) (ev_neg (by omega) (Ev.now _))))))
noncomputable def mkP (a : Nat) (x : S38) : S38 := ⟨marks a x.f0.length, marks (a + x.f0.length) x.f1.length, marks (a + x.f0.length + x.f1.length) x.f2.length, ((a + x.f0.length + x.f1.length + x.f2.length : Nat) : Int)⟩
noncomputable def mkPs : Nat → List S38 → List S38
 | _, [] => []
 | a, x :: l => mkP a x :: mkPs (a + x.f0.length + x.f1.length + x.f2.length + 1) l
def sumP : List S38 → Nat
 | [] => 0
 | x :: l => x.f0.length + x.f1.length + x.f2.length + 1 + sumP l
theorem sumP_wt (l : List S61) : sumP (l.map convP) ≤ l.length + wsum wtP l := by
 induction l with
 | nil => simp [sumP]
 | cons x l ih =>
  simp only [List.map_cons, sumP, List.length_cons]
  have h1 : wsum wtP (x :: l) = wtP x + wsum wtP l := rfl
  have h2 : wtP x = (x.f0.length + szL x.f0) + ((x.f1.length + szL x.f1) + (x.f2.length + szL x.f2)) := rfl
  have h3 : (convP x).f0.length = x.f0.length := rfl
  have h4 : (convP x).f1.length = x.f1.length := rfl
  have h5 : (convP x).f2.length = x.f2.length := rfl
  omega
theorem rd_mid (P l : List S38) (x : S38) : rd_T38 (P ++ x :: l) (P.length : Int) = x := by
 rw [rdI_at _ _ (by simp)]
 simp
theorem set_mid (P l : List S38) (x y : S38) : (P ++ x :: l).set (P.length : Int).toNat y = (P ++ [y]) ++ l := by
 rw [Int.toNat_natCast, List.set_append_right _ _ (by omega), Nat.sub_self]
 simp
theorem add_one (a : Nat) (h : a ≤ 1000000000000) : wrap64 ((a : Int) + 1) = ((a + 1 : Nat) : Int) := by rw [w64 (by omega) (by omega)]; rfl
theorem markP_loop : ∀ (l P : List S38) (a : Nat), P.length + l.length ≤ 100000000 → a + sumP l ≤ 100000000 → Ev (fun k => RD.markL k (P ++ l) (a : Int) (P.length : Int)) (((a + sumP l : Nat) : Int), P ++ mkPs a l) := by
 intro l
 induction l with
 | nil =>
  intro P a _ _
  refine Ev.step (f := fun _ => some (((a + 0 : Nat) : Int), P ++ [])) (fun k => ?_) (Ev.now _)
  simp only [RD.markL]
  rw [if_neg (by simp)]
  rfl
 | cons x l ih =>
  intro P a hl ha
  simp only [sumP, List.length_cons] at ha hl
  have hx := ih (P ++ [mkP a x]) (a + x.f0.length + x.f1.length + x.f2.length + 1) (by simp only [List.length_append, List.length_cons, List.length_nil]; omega) (by omega)
  rw [List.append_assoc (P) [mkP a x] (mkPs _ l)] at hx
  have e1 : a + sumP (x :: l) = a + x.f0.length + x.f1.length + x.f2.length + 1 + sumP l := by simp only [sumP]; omega
  rw [e1]
  have eP : ((P ++ [mkP a x]).length : Int) = ((P.length + 1 : Nat) : Int) := by simp
  rw [eP] at hx
  have i1 : (P.length : Int) < ((P ++ x :: l).length : Int) := by simp only [List.length_append, List.length_cons]; omega
  refine Ev.step (f := fun k => (laws_markStringS.f k x.f0 (a : Int)).bind fun b0 => (laws_markStringS.f k x.f1 b0.1).bind fun b1 => (laws_markStringS.f k x.f2 b1.1).bind fun b2 => RD.markL k ((P ++ [⟨b0.2, b1.2, b2.2, b2.1⟩]) ++ l) (wrap64 (b2.1 + 1)) ((P.length + 1 : Nat) : Int)) (fun k => ?_) ?_
  ·simp only [RD.markL]
   rw [if_pos i1, if_pos (by omega), add_one P.length (by omega), rd_mid]
   simp only [set_mid]
  ·refine ev_bind (markS x.f0 a (by omega) (by omega)) (ev_bind (markS x.f1 (a + x.f0.length) (by omega) (by omega)) (ev_bind (markS x.f2 (a + x.f0.length + x.f1.length) (by omega) (by omega)) ?_))
   show Ev (fun k => RD.markL k ((P ++ [mkP a x]) ++ l) (wrap64 (((a + x.f0.length + x.f1.length + x.f2.length : Nat) : Int) + 1)) ((P.length + 1 : Nat) : Int)) _
   rw [add_one _ (by omega)]
   exact hx
theorem markPages (l : List S38) (a : Nat) (hl : l.length ≤ 100000000) (ha : a + sumP l ≤ 100000000) : Ev (fun k => RD.markF k l (a : Int)) (((a + sumP l : Nat) : Int), mkPs a l) := markP_loop l [] a (by simpa using hl) ha
theorem smP_map (l : List S61) (hs : ∀ x ∈ l, x.f0.length ≤ 2000000 ∧ x.f1.length ≤ 2000000 ∧ x.f2.length ≤ 2000000) : ∀ x ∈ l.map convP, Sm x := by
 intro x hx
 obtain ⟨y, hy, rfl⟩ := List.mem_map.1 hx
 exact hs y hy
theorem FnExactUnlikeShown (a key : ByteArray) (l m : List S61) (h0 : a.size ≤ maxLen) (h1 : key.size ≤ maxLen)
  (hf : l.length ≤ maxLen ∧ ∀ x ∈ l, (x.f0.length ≤ maxLen ∧ ∀ s ∈ x.f0, s.size ≤ maxLen) ∧ (x.f1.length ≤ maxLen ∧ ∀ s ∈ x.f1, s.size ≤ maxLen) ∧ (x.f2.length ≤ maxLen ∧ ∀ s ∈ x.f2, s.size ≤ maxLen) ∧ (Lit.int .i64 x.f3).wf = true)
  (hg : m.length ≤ maxLen ∧ ∀ x ∈ m, (x.f0.length ≤ maxLen ∧ ∀ s ∈ x.f0, s.size ≤ maxLen) ∧ (x.f1.length ≤ maxLen ∧ ∀ s ∈ x.f1, s.size ≤ maxLen) ∧ (x.f2.length ≤ maxLen ∧ ∀ s ∈ x.f2, s.size ≤ maxLen) ∧ (Lit.int .i64 x.f3).wf = true) : ∃ k, laws_FnExactUnlikeShown.f k a key l m = some true := by
 refine Ev.rounds ?_
 refine Ev.congr (f := fun k => RE.lawF k a key l m) (fun k => rfl) ?_
 unfold RE.lawF
 by_cases c0 : (1048576 : Int) < (a.size : Int)
 ·simp only [if_pos c0]; exact Ev.now _
 simp only [if_neg c0]
 by_cases c1 : (1048576 : Int) < (key.size : Int)
 ·simp only [if_pos c1]; exact Ev.now _
 simp only [if_neg c1]
 have hz := szPages l ⟨hf.1, fun x hx => let h := hf.2 x hx; ⟨h.1, h.2.1, h.2.2.1⟩⟩ 1048576 (by omega) (by omega)
 by_cases ht : ((l.length + wsum wtP l : Nat) : Int) ≤ 1048576
 ·rw [left_yes ht] at hz
  have hz2 := szPages m ⟨hg.1, fun x hx => let h := hg.2 x hx; ⟨h.1, h.2.1, h.2.2.1⟩⟩ ((1048576 : Int) - ((l.length + wsum wtP l : Nat) : Int)) (by omega) (by omega)
  by_cases ht2 : ((m.length + wsum wtP m : Nat) : Int) ≤ (1048576 : Int) - ((l.length + wsum wtP l : Nat) : Int)
  ·rw [left_yes ht2] at hz2
   have hl : l.length ≤ 2000000 := by omega
   have hm : m.length ≤ 2000000 := by omega
   have s1 := small_pages l (by omega)
   have s2 := small_pages m (by omega)
   have xl : (l.map convP).length ≤ 2000000 := by rw [List.length_map]; exact hl
   have ym : (m.map convP).length ≤ 2000000 := by rw [List.length_map]; exact hm
   obtain ⟨⟨g0, g1, g2, g3, g4, g5, g6, g7, gb⟩, hS, hI, ⟨n0, n1, n2⟩, n4, n5, n6⟩ := unlike_two a key (l.map convP) (m.map convP) xl ym (smP_map l s1) (smP_map m s2)
   have w1 := sumP_wt l
   have w2 := sumP_wt m
   have n0' : g0.length ≤ 2000000 := n0
   have n1' : g1.length ≤ 2000000 := n1
   have n2' : g2.length ≤ 2000000 := n2
   have n4' : g4.length ≤ 2000000 := n4
   have n5' : g5.length ≤ 2000000 := n5
   have n6' : g6.length ≤ 2000000 := n6
   refine ev_bind hz (ev_neg (by omega) (ev_bind hz2 (ev_neg (by omega) (ev_bind (toPages l hl s1) (ev_bind (toPages m hm s2) (ev_bind hS (ev_bind hI (ev_bind (markPages (l.map convP) 1 (by omega) (by omega)) (ev_bind (markPages (m.map convP) (1 + sumP (l.map convP)) (by omega) (by omega)) (ev_bind (markShownV g0 g1 g2 g3 1 n0' n1' n2' (by omega)) (ev_bind (markShownV g4 g5 g6 g7 (1 + g0.length + g1.length + g2.length) n4' n5' n6' (by omega)) (ev_bind (heldShownV g0.length g1.length g2.length g3 1 n0' n1' n2' (by omega)) (ev_bind (heldShownV g4.length g5.length g6.length g7 (1 + g0.length + g1.length + g2.length) n4' n5' n6' (by omega)) ?_)))))))))))))
   obtain ⟨K1, E1⟩ := eqShown g0 g1 g2 g3 n0' n1' n2'
   obtain ⟨K2, E2⟩ := eqShown g4 g5 g6 g7 n4' n5' n6'
   obtain ⟨K3, E3⟩ := eqPages (l.map convP) xl (smP_map l s1)
   obtain ⟨K4, E4⟩ := eqPages (m.map convP) ym (smP_map m s2)
   exact ⟨K1 + K2 + K3 + K4, fun k hk => if_pos ⟨E1 k (by omega), E2 k (by omega), rfl, E3 k (by omega), E4 k (by omega), Int.natCast_nonneg _, Int.natCast_nonneg _, Int.natCast_nonneg _, rfl⟩⟩
  ·rw [left_no ht2] at hz2
   exact ev_bind hz (ev_neg (by omega) (ev_bind hz2 (ev_pos (by omega) (Ev.now _))))
 ·rw [left_no ht] at hz
  exact ev_bind hz (ev_pos (by omega) (Ev.now _))
end Go.Proofs.Ytpbepgffbcfaoaa.Pure
end
section
namespace Go.Proofs.Ytpbepgffbcfaoaa.RO
open Go.RowKit Go.Proofs.YtpbepgffbcfaoaaW.PrintWords Go.ChangeShapes Go.WideShapes
set_option linter.unusedVariables false
def Opn (P : Program) (W : World) (e : TypeId) {α : Type} (d : Kd α) (G : α → Prop) : Prop :=
 ∀ {H : Type} {enc : TypeId × Value → H} {base : Nat} {spare : Nat → Bool} {held : Bool} {n : Nat} {cs : List Value} {x : DataW H × List MemPlace},
  DataW.trod enc P W base spare held n e cs = some x → ∃ y : α, d.K W y cs ∧ G y
section
variable {P : Program} {W : World} {e t : TypeId}
theorem op_string (he : P.underlying e = some .string) : Opn P W e Kd.string (fun s => s.size ≤ maxLen) := by
 intro H enc base spare held n cs x h
 obtain ⟨s, rfl, _, hs⟩ := DataW.trod_string he h
 exact ⟨s, rfl, hs⟩
theorem op_int {k : IntKind} (he : P.underlying e = some (.int k)) : Opn P W e (Kd.int k) (fun n => (Lit.int k n).wf = true) := by
 intro H enc base spare held n cs x h
 obtain ⟨m, rfl, _, hs⟩ := DataW.trod_int he h
 exact ⟨m, rfl, hs⟩
theorem pick {α : Type} {p : Nat → α → Prop} : ∀ (n : Nat), (∀ i, i < n → ∃ y, p i y) → ∃ ys : List α, ys.length = n ∧ ∀ i y, ys[i]? = some y → p i y := by
 intro n
 induction n with
 | zero => intro _; exact ⟨[], rfl, fun i y h => by simp at h⟩
 | succ n ih =>
  intro h
  obtain ⟨ys, hl, hp⟩ := ih (fun i hi => h i (by omega))
  obtain ⟨y, hy⟩ := h n (by omega)
  refine ⟨ys ++ [y], by simp [hl], fun i z hz => ?_⟩
  by_cases hi : i < n
  ·rw [List.getElem?_append_left (by omega)] at hz
   exact hp i z hz
  ·rw [List.getElem?_append_right (by omega)] at hz
   have : i = n := by
    rcases Nat.lt_or_ge (i - ys.length) 1 with h1 | h1
    ·omega
    ·rw [List.getElem?_eq_none (by simpa using h1)] at hz; cases hz
   subst this
   rw [hl, Nat.sub_self] at hz
   simp at hz
   subst hz
   exact hy
theorem op_slice {α : Type} {d : Kd α} {G : α → Prop} (ht : P.underlying t = some (.slice e)) (hc : P.cellsOf e = d.sz) (ho : Opn P W e d G) : Opn P W t (Kd.slice e d) (fun l => l.length ≤ maxLen ∧ ∀ x ∈ l, G x) := by
 intro H enc base spare held n cs x h
 rcases Deep.open_slice ht h with ⟨rfl, _⟩ | ⟨a, len, cap, m, n', D, Pl, rfl, _, hl, hm, hmm, _, hx⟩
 ·exact ⟨[], ⟨none, 0, rfl, Nat.le_refl _, Kd.C_nil _ _⟩, by simp [maxLen], fun x hx => by cases hx⟩
 ·obtain ⟨ys, hyl, hy⟩ := pick (p := fun i y => ∃ c, c.length = d.sz ∧ d.K W y c ∧ G y ∧ ∀ j u, c[j]? = some u → W.cell? (a.add (i * d.sz + j)) = some u) len (fun i hi => by
   have him : i < m := by rw [hmm]; split <;> omega
   obtain ⟨c, h1, h2⟩ := hx i him
   obtain ⟨y, hk, hg⟩ := ho h2
   obtain ⟨_, hcl, hcell⟩ := World.cells?_some h1
   rw [hc] at hcl hcell
   refine ⟨y, c, hcl, hk, hg, fun j u hj => ?_⟩
   have hj' : j < d.sz := by rw [← hcl]; exact (List.getElem?_eq_some_iff.1 hj).1
   have := hcell j hj'
   rw [hj] at this
   rw [← this]
   congr 1
   have e0 : ∀ p q : Nat, (a.add p).add q = a.add (p + q) := by
    intro p q
    obtain ⟨b, o, s⟩ := a
    unfold Addr.add
    by_cases hp : p = 0
    ·subst hp; simp
    ·by_cases hq : q = 0
     ·subst hq; simp [hp]
     ·simp [hp, hq]; omega
   rw [e0])
  refine ⟨ys, ⟨some a, cap, by rw [hyl], by omega, rfl, by rw [hyl]; unfold maxLen at hm; omega, fun h0 => ⟨a, rfl, fun j p hj => ?_⟩⟩, by rw [hyl]; omega, fun x hx => ?_⟩
  ·obtain ⟨c, h1, h2, _, h3⟩ := hy j p hj
   exact ⟨c, h1, h2, h3⟩
  ·obtain ⟨i, hi⟩ := List.getElem?_of_mem hx
   obtain ⟨c, _, _, h, _⟩ := hy i x hi
   exact h
def OpAt (P : Program) (W : World) (fs : List (TypeId × Nat)) (off : Nat) {α : Type} (d : Kd α) (G : α → Prop) : Prop :=
 ∀ {H : Type} {enc : TypeId × Value → H} {base : Nat} {spare : Nat → Bool} {held : Bool} {n : Nat} {cs : List Value}, cs.length = off + d.sz →
  (∀ f ∈ fs, ∃ x, DataW.trod enc P W base spare held n f.1 ((cs.drop f.2).take (P.cellsOf f.1)) = some x) → ∃ y : α, d.K W y (cs.drop off) ∧ G y
theorem opAt_one {off : Nat} {α : Type} {d : Kd α} {G : α → Prop} (hc : P.cellsOf e = d.sz) (h : Opn P W e d G) : OpAt P W [(e, off)] off d G := by
 intro H enc base spare held n cs hl hf
 obtain ⟨x, hx⟩ := hf (e, off) (List.mem_singleton.2 rfl)
 dsimp only at hx
 rw [hc, List.take_of_length_le (by rw [List.length_drop]; omega)] at hx
 exact h hx
theorem opAt_cons {off : Nat} {fs : List (TypeId × Nat)} {α β : Type} {d1 : Kd α} {d2 : Kd β} {G1 : α → Prop} {G2 : β → Prop} (hc : P.cellsOf e = d1.sz) (h1 : Opn P W e d1 G1) (h2 : OpAt P W fs (off + d1.sz) d2 G2) :
  OpAt P W ((e, off) :: fs) off (Kd.pair d1 d2) (fun y => G1 y.1 ∧ G2 y.2) := by
 intro H enc base spare held n cs hl hf
 have hl' : cs.length = off + (d1.sz + d2.sz) := hl
 obtain ⟨x, hx⟩ := hf (e, off) List.mem_cons_self
 dsimp only at hx
 rw [hc] at hx
 obtain ⟨y1, hk1, hg1⟩ := h1 hx
 obtain ⟨y2, hk2, hg2⟩ := h2 (cs := cs) (by omega) (fun f hf' => hf f (List.mem_cons_of_mem _ hf'))
 refine ⟨(y1, y2), ⟨(cs.drop off).take d1.sz, cs.drop (off + d1.sz), ?_, hk1, hk2⟩, hg1, hg2⟩
 rw [← List.drop_drop, List.take_append_drop]
theorem op_struct {fs : Array Field} {L : List (TypeId × Nat)} {α β : Type} {d : Kd α} {f : β → α} {g : α → β} {G : α → Prop} (ht : P.underlying t = some (.struct fs)) (hL : fs.toList.map (fun f => (f.type, f.offset)) = L) (hc : P.cellsOf t = d.sz) (hfg : ∀ y, f (g y) = y)
  (h : OpAt P W L 0 d G) : Opn P W t (Kd.iso d f) (fun x => G (f x)) := by
 intro H enc base spare held n cs x hx
 obtain ⟨xs, m, _, _, hl, hxl, hf⟩ := DataW.trod_struct ht hx
 obtain ⟨y, hk, hg⟩ := h (cs := cs) (n := m) (enc := enc) (base := base) (spare := spare) (held := held) (by rw [hl, hc]; omega) (fun q hq => by
  rw [← hL] at hq
  obtain ⟨fd, hfd, rfl⟩ := List.mem_map.1 hq
  obtain ⟨i, hi⟩ := List.getElem?_of_mem hfd
  rw [Array.getElem?_toList] at hi
  have hlt : i < xs.length := by
   have := (Array.getElem?_eq_some_iff.1 hi).1
   omega
  exact ⟨xs[i], by rw [hf i fd hi]; exact List.getElem?_eq_getElem hlt⟩)
 rw [List.drop_zero] at hk
 refine ⟨g y, ?_, ?_⟩
 ·show d.K W (f (g y)) cs
  rw [hfg]; exact hk
 ·show G (f (g y))
  rw [hfg]; exact hg
end
end Go.Proofs.Ytpbepgffbcfaoaa.RO
end
