/- Lists that are asked element by element: what the searches with a function answer; digests, signatures. -/
import Derived.Test.YtleegjkloclolaaPAx12
import Derived.Test.YtleegjkloclolaaPAx21
import Derived.Test.YtleegjkloclolaaPAx22
import Derived.Test.YtleegjkloclolaaPT
namespace Go.Proofs.Ytleegjkloclolaa.PU
open Go.RowKit Go.Proofs.YtleegjkloclolaaW.PrintWords Go.Proofs.YtleegjkloclolaaW.PrintLast Go.Proofs.YtleegjkloclolaaW.PrintMore Go.Proofs.Ytleegjkloclolaa.PB Go.Proofs.Ytleegjkloclolaa.PD Go.Proofs.Ytleegjkloclolaa.PK Go.Proofs.Ytleegjkloclolaa.PL Go.Proofs.Ytleegjkloclolaa.PS Go.Proofs.Ytleegjkloclolaa.PT Go.Proofs.Ytleegjkloclolaa.PA

/-- A search by index: where there is one that is such, a place; else -1. -/
theorem idx_any {α : Type} (l : List α) (rf : List α → Int → α) (hrf : ∀ i (h : i < l.length), rf l (i : Int) = l[i]) (L0 : Nat → List α → Int → Int → Option Int) (cl : Nat → α → Option Bool) (p : α → Bool)
    (hstep : ∀ k n i, L0 (k + 1) l n i = if i < n then (if 0 ≤ i then (if i < (l.length : Int) then ((cl k (rf l i)).bind fun t => if t = true then some i else L0 k l n (wrap64 (i + 1))) else none) else none) else some (-1))
    (hp : ∀ x ∈ l, Ev (fun k => cl k x) (p x)) (hl : l.length ≤ 4000000000000000000) : ∃ r, Ev (fun k => L0 k l (l.length : Int) 0) r ∧ decide (r ≥ 0) = l.any p := by
  have key : ∀ (d i : Nat), i + d = l.length → ∃ r, Ev (fun k => L0 k l (l.length : Int) (i : Int)) r ∧ decide (r ≥ 0) = (l.drop i).any p := by
    intro d
    induction d with
    | zero =>
      intro i hi
      refine ⟨-1, Ev.step (f := fun _ => some (-1)) (fun k => ?_) (Ev.now _), ?_⟩
      · rw [hstep, if_neg (by omega)]
      · rw [List.drop_eq_nil_of_le (by omega)]; rfl
    | succ d ih =>
      intro i hi
      have hlt : i < l.length := by omega
      have hpx := hp _ (List.getElem_mem hlt)
      rw [List.drop_eq_getElem_cons hlt, List.any_cons]
      have st : ∀ k, L0 (k + 1) l (l.length : Int) (i : Int) = (cl k l[i]).bind fun t => if t = true then some (i : Int) else L0 k l (l.length : Int) ((i + 1 : Nat) : Int) := by
        intro k
        rw [hstep, if_pos (by omega), if_pos (by omega), if_pos (by omega), hrf i hlt, w64 (x := (i : Int) + 1) (by omega) (by omega)]
        rfl
      cases hb : p l[i] with
      | true =>
        rw [hb] at hpx
        refine ⟨(i : Int), Ev.step (f := fun k => (cl k l[i]).bind fun t => if t = true then some (i : Int) else L0 k l (l.length : Int) ((i + 1 : Nat) : Int)) st (ev_bind hpx (ev_pos rfl (Ev.now _))), ?_⟩
        simp only [Bool.true_or]
        exact decide_eq_true (by omega)
      | false =>
        rw [hb] at hpx
        obtain ⟨r, hr, e⟩ := ih (i + 1) (by omega)
        refine ⟨r, Ev.step (f := fun k => (cl k l[i]).bind fun t => if t = true then some (i : Int) else L0 k l (l.length : Int) ((i + 1 : Nat) : Int)) st (ev_bind hpx (ev_neg (by simp) hr)), ?_⟩
        rw [Bool.false_or]; exact e
  obtain ⟨r, hr, e⟩ := key l.length 0 (by omega)
  exact ⟨r, hr, by rw [e, List.drop_zero]⟩

def all4 (l : List ByteArray) : Bool := l.all fun s => decide (s.size = 4)
theorem all4_iff (l : List ByteArray) : all4 l = true ↔ ∀ s ∈ l, s.size = 4 := by simp [all4]
theorem isDigI (s : ByteArray) : impl_isDigest.f s = some (decide (s.size = 4)) := by
  unfold impl_isDigest.f
  refine congrArg some ?_
  by_cases h : s.size = 4
  · rw [decide_eq_true h, h]; rfl
  · rw [decide_eq_false h]; exact beq_eq_false_iff_ne.mpr (by omega)
theorem any_not_all4 (l : List ByteArray) : (l.any fun s => !decide (s.size = 4)) = !all4 l := by
  induction l with
  | nil => rfl
  | cons a l ih => simp only [List.any_cons, all4, List.all_cons, Bool.not_and]; rw [ih]; rfl
theorem areDigI (l : List ByteArray) (m : Int) (hl : l.length ≤ 4000000000000000000) : Ev (fun k => impl_areDigests.f k l m) (decide ((l.length : Int) = m) && all4 l) := by
  unfold impl_areDigests.f
  by_cases h : (l.length : Int) = m
  · refine ev_pos h ?_
    obtain ⟨r, hr, e⟩ := idx_any l (fun l i => rdOf ByteArray.empty l i) (fun i h => rdOf_at _ l i h) slices_IndexFunc_impl_areDigests_1.l0 (fun _ s => impl_areDigests_1.f s) (fun s => !decide (s.size = 4)) (fun k n i => rfl) (fun x _ => ev_of_eq (by unfold impl_areDigests_1.f; rw [isDigI]; rfl)) hl
    have hc : Ev (fun k => slices_ContainsFunc_impl_areDigests_1.f k l) (!all4 l) := by
      rw [← any_not_all4, ← e]
      exact ev_bind (f := fun _ t => some (decide (t ≥ 0))) hr (Ev.now _)
    refine ev_eq (ev_bind (f := fun _ t => some (!t)) hc (Ev.now _)) ?_
    rw [decide_eq_true h, Bool.true_and, Bool.not_not]
  · refine ev_neg h ?_
    rw [decide_eq_false h]
    exact Ev.now _
theorem good11S (l : List ByteArray) (hl : l.length ≤ 4000000000000000000) : Ev (fun k => spec_l2Good.f k l) (decide ((l.length : Int) = 11) && all4 l) := by
  have key : ∀ (d i : Nat), i + d = l.length → Ev (fun k => spec_l2Good.l0 k l l (l.length : Int) (i : Int)) (decide ((l.length : Int) = 11) && all4 (l.drop i)) := by
    intro d
    induction d with
    | zero =>
      intro i hi
      refine Ev.step (f := fun _ => some ((l.length : Int) == 11)) (fun k => ?_) ?_
      · simp only [spec_l2Good.l0]; rw [if_neg (by omega)]
      · rw [List.drop_eq_nil_of_le (by omega)]
        refine ev_eq (Ev.now _) ?_
        simp only [all4, List.all_nil, Bool.and_true]
        rfl
    | succ d ih =>
      intro i hi
      have hlt : i < l.length := by omega
      rw [List.drop_eq_getElem_cons hlt]
      by_cases hb : l[i].size = 4
      · refine Ev.step (f := fun k => spec_l2Good.l0 k l l (l.length : Int) ((i + 1 : Nat) : Int)) (fun k => ?_) ?_
        · simp only [spec_l2Good.l0]
          rw [if_pos (by omega), if_pos (by omega), if_pos (by omega), rdOf_at _ _ _ hlt, if_pos (by omega), w64 (x := (i : Int) + 1) (by omega) (by omega)]
          rfl
        · refine ev_eq (ih (i + 1) (by omega)) ?_
          simp only [all4, List.all_cons, decide_eq_true hb, Bool.true_and]
      · refine Ev.step (f := fun _ => some false) (fun k => ?_) ?_
        · simp only [spec_l2Good.l0]
          rw [if_pos (by omega), if_pos (by omega), if_pos (by omega), rdOf_at _ _ _ hlt, if_neg (by omega)]
        · refine ev_eq (Ev.now _) ?_
          simp only [all4, List.all_cons, decide_eq_false hb, Bool.false_and, Bool.and_false]
  exact key l.length 0 (by omega)
theorem good_of (l : List ByteArray) (h : (decide ((l.length : Int) = 11) && all4 l) = true) : Good11 l := by
  simp only [Bool.and_eq_true, decide_eq_true_eq] at h
  exact ⟨by omega, (all4_iff l).1 h.2⟩
def okSign (text : ByteArray) (l : List ByteArray) : Bool := decide ((text.size : Int) ≤ 200) && (decide ((l.length : Int) = 11) && all4 l)
theorem isSignI (text : ByteArray) (l : List ByteArray) (hl : l.length ≤ 4000000000000000000) : Ev (fun k => impl_isSign.f k text l) (okSign text l) := by
  unfold impl_isSign.f okSign
  by_cases h : (text.size : Int) ≤ 200
  · refine ev_pos h ?_
    rw [decide_eq_true h, Bool.true_and]
    exact ev_bind (f := fun _ t => some t) (areDigI l 11 hl) (Ev.now _)
  · refine ev_neg h ?_
    rw [decide_eq_false h]
    exact Ev.now _
theorem okSign_good {text : ByteArray} {l : List ByteArray} (h : okSign text l = true) : text.size ≤ 200 ∧ Good11 l := by
  unfold okSign at h
  rw [Bool.and_eq_true] at h
  have h1 := h.1
  rw [decide_eq_true_eq] at h1
  exact ⟨by omega, good_of l h.2⟩
theorem publicFrom_two (text : ByteArray) (l : List ByteArray) (hl : l.length ≤ 4000000000000000000) : ∃ r, Ev (fun k => spec_PublicFrom.f k text l) r ∧ Ev (fun k => impl_PublicFrom.f k text l) r := by
  have hI := isSignI text l hl
  have hS := good11S l hl
  cases hb : okSign text l with
  | true =>
    rw [hb] at hI
    obtain ⟨ht, hg⟩ := okSign_good hb
    refine ⟨(fromM text l, true), ?_, ?_⟩
    · unfold okSign at hb
      rw [Bool.and_eq_true] at hb
      rw [hb.2] at hS
      refine ev_const (longS text) ?_
      refine ev_pos hb.1 (ev_bind hS (ev_pos rfl (ev_bind (fromS text l (by omega) hg) (Ev.now _))))
    · exact ev_bind hI (ev_pos rfl (ev_bind (fromI text l (by omega) hg) (Ev.now _)))
  | false =>
    rw [hb] at hI
    refine ⟨(⟨#[]⟩, false), ?_, ?_⟩
    · refine ev_const (longS text) ?_
      by_cases h : (text.size : Int) ≤ 200
      · unfold okSign at hb
        rw [decide_eq_true h, Bool.true_and] at hb
        rw [hb] at hS
        exact ev_pos (decide_eq_true h) (ev_bind hS (ev_neg (by simp) (Ev.now _)))
      · exact ev_neg (by simp [h]) (Ev.now _)
    · exact ev_bind hI (ev_neg (by simp) (Ev.now _))
theorem checkOnce_two (pub text : ByteArray) (l : List ByteArray) (hl : l.length ≤ 4000000000000000000) : ∃ r, Ev (fun k => spec_CheckOnce.f k pub text l) r ∧ Ev (fun k => impl_CheckOnce.f k pub text l) r := by
  have hI := isSignI text l hl
  have hS := good11S l hl
  by_cases hp : pub.size = 4
  · cases hb : okSign text l with
    | true =>
      rw [hb] at hI
      obtain ⟨ht, hg⟩ := okSign_good hb
      refine ⟨((fromM text l).toList == pub.toList, true), ?_, ?_⟩
      · unfold okSign at hb
        rw [Bool.and_eq_true] at hb
        rw [hb.2] at hS
        refine ev_pos (by omega) (ev_const (longS text) ?_)
        exact ev_pos hb.1 (ev_bind hS (ev_pos rfl (ev_bind (fromS text l (by omega) hg) (Ev.now _))))
      · refine ev_const (isDigI pub) (ev_pos (decide_eq_true hp) ?_)
        exact ev_bind hI (ev_pos rfl (ev_bind (fromI text l (by omega) hg) (Ev.now _)))
    | false =>
      rw [hb] at hI
      refine ⟨(false, false), ?_, ?_⟩
      · refine ev_pos (by omega) (ev_const (longS text) ?_)
        by_cases h : (text.size : Int) ≤ 200
        · unfold okSign at hb
          rw [decide_eq_true h, Bool.true_and] at hb
          rw [hb] at hS
          exact ev_pos (decide_eq_true h) (ev_bind hS (ev_neg (by simp) (Ev.now _)))
        · exact ev_neg (by simp [h]) (Ev.now _)
      · exact ev_const (isDigI pub) (ev_pos (decide_eq_true hp) (ev_bind hI (ev_neg (by simp) (Ev.now _))))
  · refine ⟨(false, false), ev_neg (by omega) (Ev.now _), ?_⟩
    exact ev_const (isDigI pub) (ev_neg (by simp [hp]) (Ev.now _))
end Go.Proofs.Ytleegjkloclolaa.PU
