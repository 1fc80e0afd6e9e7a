/- For the law FnExactShownBytes: what it needs of the words, of the printed functions and of the plain laws, in few texts (laid by merge.py of this workplace). -/
import Derived.Test.YtleegjkloclolaaMFnExactShownBytesc
import Derived.Deep.Slices
import Derived.ChangeArms
import Derived.DataReads
section
namespace Go.Proofs.Ytleegjkloclolaa.PW
open Go.RowKit Go.Proofs.YtleegjkloclolaaW.PrintWords Go.Proofs.YtleegjkloclolaaW.PrintLast Go.Proofs.YtleegjkloclolaaW.PrintMore Go.Proofs.Ytleegjkloclolaa.PB Go.Proofs.Ytleegjkloclolaa.PD Go.Proofs.Ytleegjkloclolaa.PK Go.Proofs.Ytleegjkloclolaa.PL Go.Proofs.Ytleegjkloclolaa.PS Go.Proofs.Ytleegjkloclolaa.PT Go.Proofs.Ytleegjkloclolaa.PU Go.Proofs.Ytleegjkloclolaa.PG Go.Proofs.Ytleegjkloclolaa.PQ Go.Proofs.Ytleegjkloclolaa.PV Go.Proofs.Ytleegjkloclolaa.PA
set_option linter.unusedVariables false
noncomputable def ch (P : Prop) : Bool := @decide P (Classical.propDecidable P)
theorem ch_yes {P : Prop} (h : P) : ch P = true := @decide_eq_true P (Classical.propDecidable P) h
theorem ch_no {P : Prop} (h : ¬ P) : ch P = false := @decide_eq_false P (Classical.propDecidable P) h
theorem loop_yes {β : Type} (n : Nat) (S : Nat → Nat → Option β) (Q : Nat → Prop) (b : β) (hround : ∀ r i, i < n → Q i → Ev (S (i + 1)) r → Ev (S i) r) (hend : Ev (S n) b) (hq : ∀ i, i < n → Q i) : Ev (S 0) b :=
  loop_up n S hend (fun i hi h => hround b i hi (hq i hi) h)
theorem loop_no {β : Type} (n : Nat) (S : Nat → Nat → Option β) (Q : Nat → Prop) (no : β) (hround : ∀ r i, i < n → Q i → Ev (S (i + 1)) r → Ev (S i) r) (hno : ∀ i, i < n → ¬ Q i → Ev (S i) no) (hq : ¬ ∀ i, i < n → Q i) : Ev (S 0) no := by
  refine Classical.byContradiction fun hc => hq ?_
  have key : ∀ i, i ≤ n → (¬ Ev (S i) no) ∧ ∀ j, j < i → Q j := by
    intro i
    induction i with
    | zero => intro _; exact ⟨hc, fun j hj => absurd hj (Nat.not_lt_zero j)⟩
    | succ i ih =>
      intro hi
      obtain ⟨h1, h2⟩ := ih (by omega)
      have hQ : Q i := Classical.byContradiction fun h => h1 (hno i (by omega) h)
      refine ⟨fun h => h1 (hround no i (by omega) hQ h), fun j hj => ?_⟩
      by_cases e : j = i
      · subst e; exact hQ
      · exact h2 j (by omega)
  exact (key n (Nat.le_refl n)).2
theorem has_str (l : List ByteArray) (L0 : Nat → List ByteArray → Int → Int → Option Int) (cl : Nat → ByteArray → Option Bool) (p : ByteArray → Bool)
    (hstep : ∀ k n i, L0 (k + 1) l n i = if i < n then (if 0 ≤ i then (if i < (l.length : Int) then ((cl k (rdOf ByteArray.empty l i)).bind fun t => if t = true then some i else L0 k l n (wrap64 (i + 1))) else none) else none) else some (-1))
    (hp : ∀ x ∈ l, Ev (fun k => cl k x) (p x)) (hl : l.length ≤ 4000000000000000000) : Ev (fun k => (L0 k l (l.length : Int) 0).bind fun t => some (decide (t ≥ 0))) (l.any p) := by
  obtain ⟨r, hr, e⟩ := idx_any l (fun l i => rdOf ByteArray.empty l i) (fun i h => rdOf_at _ l i h) L0 cl p hstep hp hl
  rw [← e]
  exact ev_bind (f := fun _ t => some (decide (t ≥ 0))) hr (Ev.now _)
theorem not_any {α : Type} (p : α → Bool) : ∀ l : List α, (l.any fun s => !p s) = !(l.all p) := by
  intro l
  induction l with
  | nil => rfl
  | cons x l ih => simp only [List.any_cons, List.all_cons, Bool.not_and, ih]
theorem all_at (l : List ByteArray) (p : ByteArray → Bool) : l.all p = true ↔ ∀ i, i < l.length → p (rdOf ByteArray.empty l (i : Int)) = true := by
  rw [List.all_eq_true]
  constructor
  · intro h i hi
    rw [rdOf_at _ _ _ hi]
    exact h _ (List.getElem_mem hi)
  · intro h x hx
    obtain ⟨i, hi, e⟩ := List.getElem_of_mem hx
    have := h i hi
    rw [rdOf_at _ _ _ hi, e] at this
    exact this
def keyB (s : ByteArray) : Bool := decide (1 ≤ (s.size : Int) ∧ (s.size : Int) ≤ 12)
def valB (s : ByteArray) : Bool := decide ((s.size : Int) ≤ 12)
theorem keyI (s : ByteArray) : impl_isKey.f s = some (keyB s) := by
  unfold impl_isKey.f; rw [inI]; rfl
theorem empty_iff (a : ByteArray) : a.toList = ([] : List UInt8) ↔ a.size = 0 := by
  rw [← size_toList]
  constructor
  · intro h; rw [h]; rfl
  · intro h; exact List.length_eq_zero_iff.mp h
theorem pairS (a b : ByteArray) : spec_l5Pair.f a b = some (keyB a && valB b) := by
  unfold spec_l5Pair.f spec_l5Text.f keyB valB
  simp only [Option.bind_some]
  by_cases h1 : (a.size : Int) ≤ 12
  · rw [if_pos (decide_eq_true h1)]
    by_cases h2 : (b.size : Int) ≤ 12
    · rw [if_pos (decide_eq_true h2), decide_eq_true h2, Bool.and_true]
      by_cases h3 : a.size = 0
      · rw [(empty_iff a).2 h3, decide_eq_false (by omega)]; rfl
      · have : a.toList ≠ [] := fun h => h3 ((empty_iff a).1 h)
        rw [decide_eq_true ⟨by omega, h1⟩]
        exact congrArg some (by simp [this])
    · rw [if_neg (by simp [h2]), decide_eq_false h2, Bool.and_false]
  · rw [if_neg (by simp [h1]), decide_eq_false (fun h => h1 h.2)]; rfl
abbrev tx (l : List ByteArray) (i : Nat) : ByteArray := rdOf ByteArray.empty l (i : Int)
def risesAt (K : List ByteArray) (i : Nat) : Prop := 0 < i → Op.bytesLess (tx K (i - 1)).toList (tx K i).toList = true
def pageOk (K V C : List ByteArray) (g : Int) : Prop := K.length ≤ 4 ∧ V.length = K.length ∧ (∀ i, i < K.length → keyB (tx K i) = true ∧ risesAt K i) ∧ V.all valB = true ∧ (C.length = 0 ∨ C.length = K.length + 1) ∧ all4 C = true ∧ (0 ≤ g ∧ g ≤ (K.length : Int))
theorem risingI (K : List ByteArray) (hK : K.length ≤ 2000000) : Ev (fun k => impl_areRising.f k K) (ch (∀ i, i < K.length → keyB (tx K i) = true ∧ risesAt K i)) := by
  have round : ∀ (r : Bool) i, i < K.length → (keyB (tx K i) = true ∧ risesAt K i) → Ev (fun k => impl_areRising.l0 k K K (K.length : Int) ((i + 1 : Nat) : Int)) r → Ev (fun k => impl_areRising.l0 k K K (K.length : Int) (i : Int)) r := by
    intro r i hi hq h
    refine Ev.step (f := fun k => impl_areRising.l0 k K K (K.length : Int) ((i + 1 : Nat) : Int)) (fun k => ?_) h
    simp only [impl_areRising.l0]
    rw [if_pos (by omega), if_pos (by omega), if_pos (by omega), keyI, w64 (x := (i : Int) + 1) (by omega) (by omega)]
    simp only [Option.bind_some]
    rw [if_pos hq.1]
    by_cases h0 : 0 < i
    · rw [if_pos (by omega), w64 (x := (i : Int) - 1) (by omega) (by omega), if_pos (by omega), if_pos (by omega), show (i : Int) - 1 = ((i - 1 : Nat) : Int) by omega, if_pos (hq.2 h0)]; rfl
    · rw [if_neg (by omega)]; rfl
  have stop : ∀ i, i < K.length → ¬ (keyB (tx K i) = true ∧ risesAt K i) → Ev (fun k => impl_areRising.l0 k K K (K.length : Int) (i : Int)) false := by
    intro i hi hq
    refine Ev.step (f := fun _ => some false) (fun k => ?_) (Ev.now _)
    simp only [impl_areRising.l0]
    rw [if_pos (by omega), if_pos (by omega), if_pos (by omega), keyI]
    simp only [Option.bind_some]
    by_cases hk : keyB (tx K i) = true
    · rw [if_pos hk]
      have h0 : 0 < i := Classical.byContradiction fun h => hq ⟨hk, fun h' => absurd h' h⟩
      rw [if_pos (by omega), w64 (x := (i : Int) - 1) (by omega) (by omega), if_pos (by omega), if_pos (by omega), show (i : Int) - 1 = ((i - 1 : Nat) : Int) by omega, if_neg (fun h => hq ⟨hk, fun _ => h⟩)]
    · rw [if_neg hk]
  by_cases h : ∀ i, i < K.length → keyB (tx K i) = true ∧ risesAt K i
  · rw [ch_yes h]
    exact loop_yes K.length (fun i k => impl_areRising.l0 k K K (K.length : Int) (i : Int)) _ true round (Ev.step (f := fun _ => some true) (fun k => by simp only [impl_areRising.l0]; rw [if_neg (by omega)]) (Ev.now _)) h
  · rw [ch_no h]
    exact loop_no K.length (fun i k => impl_areRising.l0 k K K (K.length : Int) (i : Int)) _ false round stop h
theorem valsI (V : List ByteArray) (hV : V.length ≤ 2000000) : Ev (fun k => slices_ContainsFunc_impl_arePairs_1.f k V) (!(V.all valB)) := by
  rw [← not_any]
  exact has_str V slices_IndexFunc_impl_arePairs_1.l0 (fun _ s => impl_arePairs_1.f s) (fun s => !valB s) (fun k n i => rfl) (fun x _ => Ev.now _) (by omega)
theorem pairsI (K V : List ByteArray) (hK : K.length ≤ 2000000) (hV : V.length ≤ 2000000) : Ev (fun k => impl_arePairs.f k K V) (ch (K.length ≤ 40 ∧ V.length = K.length ∧ (∀ i, i < K.length → keyB (tx K i) = true ∧ risesAt K i) ∧ V.all valB = true)) := by
  unfold impl_arePairs.f
  by_cases h1 : K.length ≤ 40
  · refine ev_pos (by omega) ?_
    by_cases h2 : V.length = K.length
    · refine ev_pos (by omega) (ev_bind (risingI K hK) ?_)
      by_cases h3 : ∀ i, i < K.length → keyB (tx K i) = true ∧ risesAt K i
      · rw [ch_yes h3]
        refine ev_pos rfl (ev_bind (valsI V hV) (ev_eq (Ev.now _) ?_))
        cases h4 : V.all valB with
        | true => exact (ch_yes ⟨h1, h2, h3, rfl⟩).symm
        | false => rw [ch_no (fun h => by simp at h)]; rfl
      · rw [ch_no h3]
        exact ev_eq (ev_neg (by simp) (Ev.now _)) (ch_no (fun h => h3 h.2.2.1)).symm
    · exact ev_eq (ev_neg (by omega) (Ev.now _)) (ch_no (fun h => h2 h.2.1)).symm
  · exact ev_eq (ev_neg (by omega) (Ev.now _)) (ch_no (fun h => h1 h.1)).symm
theorem goodShownI (K V C : List ByteArray) (g : Int) (hK : K.length ≤ 2000000) (hV : V.length ≤ 2000000) (hC : C.length ≤ 2000000) : Ev (fun k => impl_GoodShown.f k K V C g) (ch (pageOk K V C g)) := by
  unfold impl_GoodShown.f
  by_cases h1 : K.length ≤ 4
  · refine ev_pos (by omega) (ev_bind (pairsI K V hK hV) ?_)
    by_cases hp : K.length ≤ 40 ∧ V.length = K.length ∧ (∀ i, i < K.length → keyB (tx K i) = true ∧ risesAt K i) ∧ V.all valB = true
    · rw [ch_yes hp]
      refine ev_pos rfl ?_
      have fin : ∀ (h5 : C.length = 0 ∨ C.length = K.length + 1) (h6 : all4 C = true), Ev (fun k => (impl_within.f g 0 (K.length : Int)).bind fun t => some t) (ch (pageOk K V C g)) := by
        intro h5 h6
        refine ev_const (inI _ _ _) (ev_eq (Ev.now _) ?_)
        by_cases h7 : 0 ≤ g ∧ g ≤ (K.length : Int)
        · rw [decide_eq_true h7]; exact (ch_yes ⟨h1, hp.2.1, hp.2.2.1, hp.2.2.2, h5, h6, h7⟩).symm
        · rw [decide_eq_false h7]; exact (ch_no (fun h => h7 h.2.2.2.2.2.2)).symm
      by_cases h4 : C.length = 0
      · refine ev_pos (by omega) (fin (Or.inl h4) ?_)
        rw [List.length_eq_zero_iff.mp h4]; rfl
      · refine ev_neg (by omega) ?_
        rw [w64 (x := (K.length : Int) + 1) (by omega) (by omega)]
        refine ev_bind (areDigI C _ (by omega)) ?_
        by_cases h5 : (decide ((C.length : Int) = (K.length : Int) + 1) && all4 C) = true
        · rw [h5]
          simp only [Bool.and_eq_true, decide_eq_true_eq] at h5
          exact ev_pos rfl (fin (Or.inr (by omega)) h5.2)
        · refine ev_neg h5 (ev_eq (Ev.now _) (ch_no (fun h => h5 ?_)).symm)
          obtain ⟨_, _, _, _, h8, h9, _⟩ := h
          rw [h9, Bool.and_true]
          exact decide_eq_true (by omega)
    · rw [ch_no hp]
      exact ev_eq (ev_neg (by simp) (Ev.now _)) (ch_no (fun h => hp ⟨by omega, h.2.1, h.2.2.1, h.2.2.2.1⟩)).symm
  · exact ev_eq (ev_neg (by omega) (Ev.now _)) (ch_no (fun h => h1 h.1)).symm
theorem goodShownS (K V C : List ByteArray) (g : Int) (hK : K.length ≤ 2000000) (hV : V.length ≤ 2000000) (hC : C.length ≤ 2000000) : Ev (fun k => spec_GoodShown.f k K V C g) (ch (pageOk K V C g)) := by
  have endS : (∀ i, i < K.length → (i < V.length ∧ valB (tx V i) = true) ∧ keyB (tx K i) = true ∧ risesAt K i) → Ev (fun k => spec_GoodShown.l1 k C (C.length : Int) 0 K V C g) (ch (pageOk K V C g)) := by
    intro hA
    have round : ∀ (r : Bool) i, i < C.length → (tx C i).size = 4 → Ev (fun k => spec_GoodShown.l1 k C (C.length : Int) ((i + 1 : Nat) : Int) K V C g) r → Ev (fun k => spec_GoodShown.l1 k C (C.length : Int) (i : Int) K V C g) r := by
      intro r i hi hq h
      refine Ev.step (f := fun k => spec_GoodShown.l1 k C (C.length : Int) ((i + 1 : Nat) : Int) K V C g) (fun k => ?_) h
      simp only [spec_GoodShown.l1]
      rw [if_pos (by omega), if_pos (by omega), if_pos (by omega), if_pos (show ((rdOf ByteArray.empty C (i : Int)).size : Int) = 4 from by have : (rdOf ByteArray.empty C (i : Int)).size = 4 := hq; omega), w64 (x := (i : Int) + 1) (by omega) (by omega)]
      rfl
    by_cases h6 : ∀ i, i < C.length → (tx C i).size = 4
    · have h6' : all4 C = true := (all_at C _).2 (fun i hi => decide_eq_true (h6 i hi))
      refine loop_yes C.length (fun i k => spec_GoodShown.l1 k C (C.length : Int) (i : Int) K V C g) _ _ round ?_ h6
      refine Ev.step (f := fun k => if (K.length : Int) ≤ 4 then (if (V.length : Int) = (K.length : Int) then (if (C.length : Int) = 0 then ((spec_l1In.f g 0 (K.length : Int)).bind fun t252 => (some t252)) else (if (C.length : Int) = (wrap64 ((K.length : Int) + 1)) then ((spec_l1In.f g 0 (K.length : Int)).bind fun t253 => (some t253)) else (some false))) else (some false)) else (some false)) (fun k => by simp only [spec_GoodShown.l1]; rw [if_neg (by omega)]) ?_
      by_cases h1 : K.length ≤ 4
      · refine ev_pos (by omega) ?_
        by_cases h2 : V.length = K.length
        · refine ev_pos (by omega) ?_
          have hv : V.all valB = true := (all_at V _).2 (fun i hi => (hA i (by omega)).1.2)
          have hk : ∀ i, i < K.length → keyB (tx K i) = true ∧ risesAt K i := fun i hi => (hA i hi).2
          have fin : ∀ (h5 : C.length = 0 ∨ C.length = K.length + 1), Ev (fun k => (spec_l1In.f g 0 (K.length : Int)).bind fun t => some t) (ch (pageOk K V C g)) := by
            intro h5
            refine ev_const (inS _ _ _) (ev_eq (Ev.now _) ?_)
            by_cases h7 : 0 ≤ g ∧ g ≤ (K.length : Int)
            · rw [decide_eq_true h7]; exact (ch_yes ⟨h1, h2, hk, hv, h5, h6', h7⟩).symm
            · rw [decide_eq_false h7]; exact (ch_no (fun h => h7 h.2.2.2.2.2.2)).symm
          by_cases h4 : C.length = 0
          · exact ev_pos (by omega) (fin (Or.inl h4))
          · refine ev_neg (by omega) ?_
            rw [w64 (x := (K.length : Int) + 1) (by omega) (by omega)]
            by_cases h5 : C.length = K.length + 1
            · exact ev_pos (by omega) (fin (Or.inr h5))
            · exact ev_eq (ev_neg (by omega) (Ev.now _)) (ch_no (fun h => by have := h.2.2.2.2.1; omega)).symm
        · exact ev_eq (ev_neg (by omega) (Ev.now _)) (ch_no (fun h => h2 h.2.1)).symm
      · exact ev_eq (ev_neg (by omega) (Ev.now _)) (ch_no (fun h => h1 h.1)).symm
    · rw [ch_no (fun h => h6 (fun i hi => of_decide_eq_true ((all_at C _).1 h.2.2.2.2.2.1 i hi)))]
      refine loop_no C.length (fun i k => spec_GoodShown.l1 k C (C.length : Int) (i : Int) K V C g) _ false round (fun i hi hq => ?_) h6
      refine Ev.step (f := fun _ => some false) (fun k => ?_) (Ev.now _)
      simp only [spec_GoodShown.l1]
      rw [if_pos (by omega), if_pos (by omega), if_pos (by omega), if_neg (show ¬ ((rdOf ByteArray.empty C (i : Int)).size : Int) = 4 from by have : ¬ (rdOf ByteArray.empty C (i : Int)).size = 4 := hq; omega)]
  have round : ∀ (r : Bool) i, i < K.length → ((i < V.length ∧ valB (tx V i) = true) ∧ keyB (tx K i) = true ∧ risesAt K i) → Ev (fun k => spec_GoodShown.l0 k K (K.length : Int) ((i + 1 : Nat) : Int) K V C g) r → Ev (fun k => spec_GoodShown.l0 k K (K.length : Int) (i : Int) K V C g) r := by
    intro r i hi hq h
    refine Ev.step (f := fun k => spec_GoodShown.l0 k K (K.length : Int) ((i + 1 : Nat) : Int) K V C g) (fun k => ?_) h
    have hb : (keyB (tx K i) && valB (tx V i)) = true := by rw [hq.1.2, hq.2.1]; rfl
    have hi2 := hq.1.1
    simp only [spec_GoodShown.l0]
    rw [if_pos (by omega), if_pos (by omega), if_pos (by omega), if_neg (by omega), if_pos (by omega), pairS, w64 (x := (i : Int) + 1) (by omega) (by omega)]
    simp only [Option.bind_some]
    rw [if_pos hb]
    by_cases h0 : 0 < i
    · rw [if_pos (by omega), w64 (x := (i : Int) - 1) (by omega) (by omega), if_pos (by omega), if_pos (by omega), show (i : Int) - 1 = ((i - 1 : Nat) : Int) by omega, if_pos (hq.2.2 h0)]; rfl
    · rw [if_neg (by omega)]; rfl
  have stop : ∀ i, i < K.length → ¬ ((i < V.length ∧ valB (tx V i) = true) ∧ keyB (tx K i) = true ∧ risesAt K i) → Ev (fun k => spec_GoodShown.l0 k K (K.length : Int) (i : Int) K V C g) false := by
    intro i hi hq
    refine Ev.step (f := fun _ => some false) (fun k => ?_) (Ev.now _)
    simp only [spec_GoodShown.l0]
    rw [if_pos (by omega), if_pos (by omega), if_pos (by omega)]
    by_cases hi2 : i < V.length
    · rw [if_neg (by omega), if_pos (by omega), pairS]
      simp only [Option.bind_some]
      by_cases hb : (keyB (tx K i) && valB (tx V i)) = true
      · rw [if_pos hb]
        rw [Bool.and_eq_true] at hb
        have h0 : 0 < i := Classical.byContradiction fun h => hq ⟨⟨hi2, hb.2⟩, hb.1, fun h' => absurd h' h⟩
        rw [if_pos (by omega), w64 (x := (i : Int) - 1) (by omega) (by omega), if_pos (by omega), if_pos (by omega), show (i : Int) - 1 = ((i - 1 : Nat) : Int) by omega, if_neg (fun h => hq ⟨⟨hi2, hb.2⟩, hb.1, fun _ => h⟩)]
      · rw [if_neg hb]
    · rw [if_pos (by omega)]
  by_cases hA : ∀ i, i < K.length → (i < V.length ∧ valB (tx V i) = true) ∧ keyB (tx K i) = true ∧ risesAt K i
  · exact loop_yes K.length (fun i k => spec_GoodShown.l0 k K (K.length : Int) (i : Int) K V C g) _ _ round (Ev.step (f := fun k => spec_GoodShown.l1 k C (C.length : Int) 0 K V C g) (fun k => by simp only [spec_GoodShown.l0]; rw [if_neg (by omega)]) (endS hA)) hA
  · refine ev_eq (loop_no K.length (fun i k => spec_GoodShown.l0 k K (K.length : Int) (i : Int) K V C g) _ false round stop hA) (ch_no (fun h => hA (fun i hi => ?_))).symm
    obtain ⟨_, h2, h3, h4, _⟩ := h
    exact ⟨⟨by omega, (all_at V _).1 h4 i (by omega)⟩, h3 i hi⟩
theorem bytes_l1 : ∀ k x C n i, impl_Shown_bytes.l1 k x C n i = spec_l6Bytes.l1 k x C n i := by
  intro k
  induction k with
  | zero => intros; rfl
  | succ k ih => intros; simp only [impl_Shown_bytes.l1, spec_l6Bytes.l1, ih]
theorem bytes_l0 : ∀ k x K0 n i K V C g, impl_Shown_bytes.l0 k x K0 n i K V C g = spec_l6Bytes.l0 k x K0 n i K V C g := by
  intro k
  induction k with
  | zero => intros; rfl
  | succ k ih => intros; simp only [impl_Shown_bytes.l0, spec_l6Bytes.l0, ih, bytes_l1, impl_oneByte.f, Option.bind_some]
theorem bytes_eq (k : Nat) (K V C : List ByteArray) (g : Int) : impl_Shown_bytes.f k K V C g = spec_l6Bytes.f k K V C g := by
  unfold impl_Shown_bytes.f spec_l6Bytes.f impl_oneByte.f
  simp only [Option.bind_some]
  exact bytes_l0 _ _ _ _ _ _ _ _ _
theorem bytesS (K V C : List ByteArray) (g : Int) (h : pageOk K V C g) : ∃ r, Ev (fun k => spec_l6Bytes.f k K V C g) r ∧ r.size ≤ 1000 := by
  obtain ⟨h1, h2, h3, h4, h5, h6, _⟩ := h
  have hc : C.length ≤ 5 := by omega
  have kids : ∀ (d i : Nat) (x : ByteArray), i + d = C.length → x.size ≤ 500 + 4 * i → ∃ r, Ev (fun k => spec_l6Bytes.l1 k x C (C.length : Int) (i : Int)) r ∧ r.size ≤ 1000 := by
    intro d
    induction d with
    | zero =>
      intro i x hi hx
      refine ⟨x, Ev.step (f := fun _ => some x) (fun k => ?_) (Ev.now _), by omega⟩
      simp only [spec_l6Bytes.l1]; rw [if_neg (by omega)]
    | succ d ih =>
      intro i x hi hx
      have hs : (rdOf ByteArray.empty C (i : Int)).size = 4 := of_decide_eq_true ((all_at C _).1 h6 i (by omega))
      obtain ⟨r, hr, hz⟩ := ih (i + 1) (x ++ rdOf ByteArray.empty C (i : Int)) (by omega) (by rw [app_size]; omega)
      refine ⟨r, Ev.step (f := fun k => spec_l6Bytes.l1 k (x ++ rdOf ByteArray.empty C (i : Int)) C (C.length : Int) ((i + 1 : Nat) : Int)) (fun k => ?_) hr, hz⟩
      simp only [spec_l6Bytes.l1]
      rw [if_pos (by omega), if_pos (by omega), if_pos (by omega), if_pos (by omega), w64 (x := (i : Int) + 1) (by omega) (by omega)]
      rfl
  have e1 : ∀ n : Int, (strOfNums [n % 256]).size = 1 := fun n => by rw [strOfNums_size]; rfl
  have pairs : ∀ (d i : Nat) (x : ByteArray), i + d = K.length → x.size ≤ 1 + 40 * i → ∃ r, Ev (fun k => spec_l6Bytes.l0 k x K (K.length : Int) (i : Int) K V C g) r ∧ r.size ≤ 1000 := by
    intro d
    induction d with
    | zero =>
      intro i x hi hx
      obtain ⟨r, hr, hz⟩ := kids C.length 0 (x ++ strOfNums [(C.length : Int) % 256]) (by omega) (by rw [app_size, e1]; omega)
      refine ⟨r, Ev.step (f := fun k => spec_l6Bytes.l1 k (x ++ strOfNums [(C.length : Int) % 256]) C (C.length : Int) ((0 : Nat) : Int)) (fun k => ?_) hr, hz⟩
      simp only [spec_l6Bytes.l0, Option.bind_some]
      rw [if_neg (by omega), if_pos (by rw [e1]; omega)]
      rfl
    | succ d ih =>
      intro i x hi hx
      have ks := of_decide_eq_true (h3 i (by omega)).1
      have vs := of_decide_eq_true ((all_at V _).1 h4 i (by omega))
      have ks' : (rdOf ByteArray.empty K (i : Int)).size ≤ 12 := by
        have : ((rdOf ByteArray.empty K (i : Int)).size : Int) ≤ 12 := ks.2
        omega
      have vs' : (rdOf ByteArray.empty V (i : Int)).size ≤ 12 := by omega
      obtain ⟨r, hr, hz⟩ := ih (i + 1) (x ++ (strOfNums [((rdOf ByteArray.empty K (i : Int)).size : Int) % 256] ++ rdOf ByteArray.empty K (i : Int) ++ strOfNums [((rdOf ByteArray.empty V (i : Int)).size : Int) % 256] ++ rdOf ByteArray.empty V (i : Int))) (by omega) (by simp only [app_size, e1]; omega)
      refine ⟨r, Ev.step (f := fun k => spec_l6Bytes.l0 k (x ++ (strOfNums [((rdOf ByteArray.empty K (i : Int)).size : Int) % 256] ++ rdOf ByteArray.empty K (i : Int) ++ strOfNums [((rdOf ByteArray.empty V (i : Int)).size : Int) % 256] ++ rdOf ByteArray.empty V (i : Int))) K (K.length : Int) ((i + 1 : Nat) : Int) K V C g) (fun k => ?_) hr, hz⟩
      simp only [spec_l6Bytes.l0, Option.bind_some]
      rw [if_pos (by omega), if_pos (by omega), if_pos (by omega), if_pos (by rw [e1]; omega), if_pos (by omega), if_pos (by simp only [app_size, e1]; omega), if_pos (by simp only [app_size, e1]; omega), if_pos (by simp only [app_size, e1]; omega), w64 (x := (i : Int) + 1) (by omega) (by omega)]
      rfl
  obtain ⟨r, hr, hz⟩ := pairs K.length 0 (strOfNums [(K.length : Int) % 256]) (by omega) (by rw [e1]; omega)
  exact ⟨r, hr, hz⟩
theorem shownBytes_two (K V C : List ByteArray) (g : Int) (hK : K.length ≤ 2000000) (hV : V.length ≤ 2000000) (hC : C.length ≤ 2000000) : ∃ r, Ev (fun k => spec_ShownBytes.f k K V C g) r ∧ Ev (fun k => impl_ShownBytes.f k K V C g) r := by
  have hS := goodShownS K V C g hK hV hC
  have hI := goodShownI K V C g hK hV hC
  by_cases h : pageOk K V C g
  · rw [ch_yes h] at hS hI
    obtain ⟨r, hr, _⟩ := bytesS K V C g h
    refine ⟨(r, true), ev_bind hS (ev_pos rfl (ev_bind hr (Ev.now _))), ev_bind hI (ev_pos rfl (ev_bind ?_ (Ev.now _)))⟩
    exact Ev.congr (fun k => bytes_eq k K V C g) hr
  · rw [ch_no h] at hS hI
    exact ⟨(⟨#[]⟩, false), ev_bind hS (ev_neg (by simp) (Ev.now _)), ev_bind hI (ev_neg (by simp) (Ev.now _))⟩
theorem szShown (K V C : List ByteArray) (g : Int) (h1 : Fit K) (h2 : Fit V) (h3 : Fit C) (R : Int) (h0 : 0 ≤ R) (hR : R ≤ 1000000000) : Ev (fun k => laws_szShown.f k K V C g R) (left R (total K + (total V + total C))) := by
  refine ev_bind (szS K h1 R h0 hR) ?_
  by_cases c1 : (total K : Int) ≤ R
  · rw [if_pos c1]
    refine ev_neg (by omega) (ev_bind (szS V h2 (R - total K) (by omega) (by omega)) ?_)
    by_cases c2 : (total V : Int) ≤ R - total K
    · rw [if_pos c2]
      refine ev_neg (by omega) (ev_bind (szS C h3 (R - total K - total V) (by omega) (by omega)) ?_)
      by_cases c3 : (total C : Int) ≤ R - total K - total V
      · rw [if_pos c3]
        refine ev_neg (by omega) (ev_eq (Ev.now _) ?_)
        rw [left_yes (by omega)]; omega
      · rw [if_neg c3]
        refine ev_pos (by omega) (ev_eq (Ev.now _) ?_)
        rw [left_no (by omega)]
    · rw [if_neg c2]
      refine ev_pos (by omega) (ev_eq (Ev.now _) ?_)
      rw [left_no (by omega)]
  · rw [if_neg c1]
    refine ev_pos (by omega) (ev_eq (Ev.now _) ?_)
    rw [left_no (by omega)]
theorem toShown (K V C : List ByteArray) (g : Int) (hK : K.length ≤ 2000000) (hV : V.length ≤ 2000000) (hC : C.length ≤ 2000000) : Ev (fun k => laws_toShown.f k K V C g) (K, V, C, g) :=
  ev_bind (toS K hK) (ev_bind (toS V hV) (ev_bind (toS C hC) (Ev.now _)))
theorem eqShown (K V C : List ByteArray) (g : Int) (hK : K.length ≤ 2000000) (hV : V.length ≤ 2000000) (hC : C.length ≤ 2000000) : Ev (fun k => laws_eqShown.f k K V C g K V C g) true :=
  ev_bind (eqS_yes K hK) (ev_pos rfl (ev_bind (eqS_yes V hV) (ev_pos rfl (ev_bind (eqS_yes C hC) (ev_pos rfl (ev_pos rfl (Ev.now _)))))))
end Go.Proofs.Ytleegjkloclolaa.PW
end
section
namespace Go.Proofs.Ytleegjkloclolaa.Pure
open Go.RowKit Go.Proofs.YtleegjkloclolaaW.PrintWords Go.Proofs.YtleegjkloclolaaW.PrintLast Go.Proofs.YtleegjkloclolaaW.PrintMore Go.Proofs.Ytleegjkloclolaa.PB Go.Proofs.Ytleegjkloclolaa.PL Go.Proofs.Ytleegjkloclolaa.PT Go.Proofs.Ytleegjkloclolaa.PG Go.Proofs.Ytleegjkloclolaa.PW Go.Proofs.Ytleegjkloclolaa.PA
set_option linter.unusedVariables false
theorem FnExactShownBytes (K V C : List ByteArray) (g : Int) (hs : (K.length ≤ maxLen ∧ ∀ s ∈ K, s.size ≤ maxLen) ∧ (V.length ≤ maxLen ∧ ∀ s ∈ V, s.size ≤ maxLen) ∧ (C.length ≤ maxLen ∧ ∀ s ∈ C, s.size ≤ maxLen) ∧ (Lit.int .i64 g).wf = true) : ∃ k, laws_FnExactShownBytes.f k K V C g = some true := by
  refine Ev.rounds ?_
  unfold laws_FnExactShownBytes.f
  have hz := szShown K V C g hs.1 hs.2.1 hs.2.2.1 1048576 (by omega) (by omega)
  by_cases ht : ((total K + (total V + total C) : Nat) : Int) ≤ 1048576
  · rw [left_yes ht] at hz
    have hK : K.length ≤ 2000000 := by unfold total at ht; omega
    have hV : V.length ≤ 2000000 := by unfold total at ht; omega
    have hC : C.length ≤ 2000000 := by unfold total at ht; omega
    obtain ⟨⟨r, ok⟩, hsS, hiI⟩ := shownBytes_two K V C g hK hV hC
    refine ev_bind hz (ev_neg (by omega) (ev_bind (toShown K V C g hK hV hC) (ev_bind hsS (ev_bind (toShown K V C g hK hV hC) (ev_bind hiI ?_)))))
    refine ev_pos rfl ?_
    refine Ev.step (f := fun k => _) (fun k => by simp only [laws_FnExactShownBytes.j0]; rfl) ?_
    exact ev_neg (by simp) (ev_bind (toShown K V C g hK hV hC) (ev_bind (eqShown K V C g hK hV hC) (ev_pos rfl (Ev.now _))))
  · rw [left_no ht] at hz
    exact ev_bind hz (ev_pos (by omega) (Ev.now _))
end Go.Proofs.Ytleegjkloclolaa.Pure
end
section
namespace Go.Proofs.Ytleegjkloclolaa.RO
open Go.RowKit Go.Proofs.YtleegjkloclolaaW.PrintWords Go.ChangeShapes Go.WideShapes
def Opn (P : Program) (W : World) (e : TypeId) {α : Type} (d : Kd α) (G : α → Prop) : Prop :=
  ∀ {H : Type} {enc : TypeId × Value → H} {base : Nat} {spare : Nat → Bool} {held : Bool} {n : Nat} {cs : List Value} {x : DataW H × List MemPlace},
    DataW.trod enc P W base spare held n e cs = some x → ∃ y : α, d.K W y cs ∧ G y
section
variable {P : Program} {W : World} {e t : TypeId}
theorem op_string (he : P.underlying e = some .string) : Opn P W e Kd.string (fun s => s.size ≤ maxLen) := by
  intro H enc base spare held n cs x h
  obtain ⟨s, rfl, _, hs⟩ := DataW.trod_string he h
  exact ⟨s, rfl, hs⟩
theorem op_int {k : IntKind} (he : P.underlying e = some (.int k)) : Opn P W e (Kd.int k) (fun n => (Lit.int k n).wf = true) := by
  intro H enc base spare held n cs x h
  obtain ⟨m, rfl, _, hs⟩ := DataW.trod_int he h
  exact ⟨m, rfl, hs⟩
theorem pick {α : Type} {p : Nat → α → Prop} : ∀ (n : Nat), (∀ i, i < n → ∃ y, p i y) → ∃ ys : List α, ys.length = n ∧ ∀ i y, ys[i]? = some y → p i y := by
  intro n
  induction n with
  | zero => intro _; exact ⟨[], rfl, fun i y h => by simp at h⟩
  | succ n ih =>
    intro h
    obtain ⟨ys, hl, hp⟩ := ih (fun i hi => h i (by omega))
    obtain ⟨y, hy⟩ := h n (by omega)
    refine ⟨ys ++ [y], by simp [hl], fun i z hz => ?_⟩
    by_cases hi : i < n
    · rw [List.getElem?_append_left (by omega)] at hz
      exact hp i z hz
    · rw [List.getElem?_append_right (by omega)] at hz
      have : i = n := by
        rcases Nat.lt_or_ge (i - ys.length) 1 with h1 | h1
        · omega
        · rw [List.getElem?_eq_none (by simpa using h1)] at hz; cases hz
      subst this
      rw [hl, Nat.sub_self] at hz
      simp at hz
      subst hz
      exact hy
theorem op_slice {α : Type} {d : Kd α} {G : α → Prop} (ht : P.underlying t = some (.slice e)) (hc : P.cellsOf e = d.sz) (ho : Opn P W e d G) : Opn P W t (Kd.slice e d) (fun l => l.length ≤ maxLen ∧ ∀ x ∈ l, G x) := by
  intro H enc base spare held n cs x h
  rcases Deep.open_slice ht h with ⟨rfl, _⟩ | ⟨a, len, cap, m, n', D, Pl, rfl, _, hl, hm, hmm, _, hx⟩
  · exact ⟨[], ⟨none, 0, rfl, Nat.le_refl _, Kd.C_nil _ _⟩, by simp [maxLen], fun x hx => by cases hx⟩
  · obtain ⟨ys, hyl, hy⟩ := pick (p := fun i y => ∃ c, c.length = d.sz ∧ d.K W y c ∧ G y ∧ ∀ j u, c[j]? = some u → W.cell? (a.add (i * d.sz + j)) = some u) len (fun i hi => by
      have him : i < m := by rw [hmm]; split <;> omega
      obtain ⟨c, h1, h2⟩ := hx i him
      obtain ⟨y, hk, hg⟩ := ho h2
      obtain ⟨_, hcl, hcell⟩ := World.cells?_some h1
      rw [hc] at hcl hcell
      refine ⟨y, c, hcl, hk, hg, fun j u hj => ?_⟩
      have hj' : j < d.sz := by rw [← hcl]; exact (List.getElem?_eq_some_iff.1 hj).1
      have := hcell j hj'
      rw [hj] at this
      rw [← this]
      congr 1
      have e0 : ∀ p q : Nat, (a.add p).add q = a.add (p + q) := by
        intro p q
        obtain ⟨b, o, s⟩ := a
        unfold Addr.add
        by_cases hp : p = 0
        · subst hp; simp
        · by_cases hq : q = 0
          · subst hq; simp [hp]
          · simp [hp, hq]; omega
      rw [e0])
    refine ⟨ys, ⟨some a, cap, by rw [hyl], by omega, rfl, by rw [hyl]; unfold maxLen at hm; omega, fun h0 => ⟨a, rfl, fun j p hj => ?_⟩⟩, by rw [hyl]; omega, fun x hx => ?_⟩
    · obtain ⟨c, h1, h2, _, h3⟩ := hy j p hj
      exact ⟨c, h1, h2, h3⟩
    · obtain ⟨i, hi⟩ := List.getElem?_of_mem hx
      obtain ⟨c, _, _, h, _⟩ := hy i x hi
      exact h
def OpAt (P : Program) (W : World) (fs : List (TypeId × Nat)) (off : Nat) {α : Type} (d : Kd α) (G : α → Prop) : Prop :=
  ∀ {H : Type} {enc : TypeId × Value → H} {base : Nat} {spare : Nat → Bool} {held : Bool} {n : Nat} {cs : List Value}, cs.length = off + d.sz →
    (∀ f ∈ fs, ∃ x, DataW.trod enc P W base spare held n f.1 ((cs.drop f.2).take (P.cellsOf f.1)) = some x) → ∃ y : α, d.K W y (cs.drop off) ∧ G y
theorem opAt_one {off : Nat} {α : Type} {d : Kd α} {G : α → Prop} (hc : P.cellsOf e = d.sz) (h : Opn P W e d G) : OpAt P W [(e, off)] off d G := by
  intro H enc base spare held n cs hl hf
  obtain ⟨x, hx⟩ := hf (e, off) (List.mem_singleton.2 rfl)
  dsimp only at hx
  rw [hc, List.take_of_length_le (by rw [List.length_drop]; omega)] at hx
  exact h hx
theorem opAt_cons {off : Nat} {fs : List (TypeId × Nat)} {α β : Type} {d1 : Kd α} {d2 : Kd β} {G1 : α → Prop} {G2 : β → Prop} (hc : P.cellsOf e = d1.sz) (h1 : Opn P W e d1 G1) (h2 : OpAt P W fs (off + d1.sz) d2 G2) :
    OpAt P W ((e, off) :: fs) off (Kd.pair d1 d2) (fun y => G1 y.1 ∧ G2 y.2) := by
  intro H enc base spare held n cs hl hf
  have hl' : cs.length = off + (d1.sz + d2.sz) := hl
  obtain ⟨x, hx⟩ := hf (e, off) List.mem_cons_self
  dsimp only at hx
  rw [hc] at hx
  obtain ⟨y1, hk1, hg1⟩ := h1 hx
  obtain ⟨y2, hk2, hg2⟩ := h2 (cs := cs) (by omega) (fun f hf' => hf f (List.mem_cons_of_mem _ hf'))
  refine ⟨(y1, y2), ⟨(cs.drop off).take d1.sz, cs.drop (off + d1.sz), ?_, hk1, hk2⟩, hg1, hg2⟩
  rw [← List.drop_drop, List.take_append_drop]
theorem op_struct {fs : Array Field} {L : List (TypeId × Nat)} {α β : Type} {d : Kd α} {f : β → α} {g : α → β} {G : α → Prop} (ht : P.underlying t = some (.struct fs)) (hL : fs.toList.map (fun f => (f.type, f.offset)) = L) (hc : P.cellsOf t = d.sz) (hfg : ∀ y, f (g y) = y)
    (h : OpAt P W L 0 d G) : Opn P W t (Kd.iso d f) (fun x => G (f x)) := by
  intro H enc base spare held n cs x hx
  obtain ⟨xs, m, _, _, hl, hxl, hf⟩ := DataW.trod_struct ht hx
  obtain ⟨y, hk, hg⟩ := h (cs := cs) (n := m) (enc := enc) (base := base) (spare := spare) (held := held) (by rw [hl, hc]; omega) (fun q hq => by
    rw [← hL] at hq
    obtain ⟨fd, hfd, rfl⟩ := List.mem_map.1 hq
    obtain ⟨i, hi⟩ := List.getElem?_of_mem hfd
    rw [Array.getElem?_toList] at hi
    have hlt : i < xs.length := by
      have := (Array.getElem?_eq_some_iff.1 hi).1
      omega
    exact ⟨xs[i], by rw [hf i fd hi]; exact List.getElem?_eq_getElem hlt⟩)
  rw [List.drop_zero] at hk
  refine ⟨g y, ?_, ?_⟩
  · show d.K W (f (g y)) cs
    rw [hfg]; exact hk
  · show G (f (g y))
    rw [hfg]; exact hg
theorem op_struct0 {fs : Array Field} {L : List (TypeId × Nat)} {α : Type} {d : Kd α} {G : α → Prop} (ht : P.underlying t = some (.struct fs)) (hL : fs.toList.map (fun f => (f.type, f.offset)) = L) (hc : P.cellsOf t = d.sz)
    (h : OpAt P W L 0 d G) : Opn P W t d G := by
  intro H enc base spare held n cs x hx
  exact op_struct (d := d) (f := fun y : α => y) (g := fun y => y) ht hL hc (fun _ => rfl) h hx
end
theorem agg_of_cells {v : Value} {l : List Value} (h : v.cells.toList = l) (hl : 2 ≤ l.length) : v = .agg l.toArray := by
  cases v <;> simp only [Value.cells] at h
  case agg cs => subst h; simp
  all_goals (subst h; simp at hl)
end Go.Proofs.Ytleegjkloclolaa.RO
end
