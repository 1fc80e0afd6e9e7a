/- For the law FnExactShowSlot: what it needs of the words, of the printed functions and of the plain laws, in few texts (laid by merge.py of this workplace). -/
import Derived.Test.YtfajabboibcgpaaMFnExactShowSlotd
import Derived.Deep.Slices
import Derived.ChangeArms
import Derived.DataReads
section
namespace Go.Proofs.Ytfajabboibcgpaa.PL
open Go.RowKit Go.Proofs.YtfajabboibcgpaaW.PrintWords Go.Proofs.YtfajabboibcgpaaW.PrintLast Go.Proofs.YtfajabboibcgpaaW.PrintMore Go.Proofs.Ytfajabboibcgpaa.PB Go.Proofs.Ytfajabboibcgpaa.PA
set_option linter.unusedVariables false
theorem rdOf_at {α : Type} (d : α) (l : List α) (i : Nat) (h : i < l.length) : rdOf d l (i : Int) = l[i] := by
  simp [rdOf, List.getD_eq_getElem?_getD, List.getElem?_eq_getElem h]
def filled {α β : Type} (f : α → β) (z : β) (l : List α) (i : Nat) : List β := (l.take i).map f ++ List.replicate (l.length - i) z
theorem filled_length {α β : Type} (f : α → β) (z : β) (l : List α) (i : Nat) (h : i ≤ l.length) : (filled f z l i).length = l.length := by
  simp [filled, Nat.min_eq_left h]; omega
theorem filled_zero {α β : Type} (f : α → β) (z : β) (l : List α) : filled f z l 0 = List.replicate l.length z := by simp [filled]
theorem filled_all {α β : Type} (f : α → β) (z : β) (l : List α) : filled f z l l.length = l.map f := by simp [filled]
theorem filled_set {α β : Type} (f : α → β) (z : β) (l : List α) (i : Nat) (h : i < l.length) : (filled f z l i).set i (f l[i]) = filled f z l (i + 1) := by
  unfold filled
  rw [List.take_succ_eq_append_getElem h, List.map_append, List.map_cons, List.map_nil]
  have hl : ((l.take i).map f).length = i := by simp [Nat.min_eq_left (Nat.le_of_lt h)]
  obtain ⟨m, hm⟩ : ∃ m, l.length - i = m + 1 := ⟨l.length - i - 1, by omega⟩
  rw [hm, List.replicate_succ, List.set_append_right _ _ (by omega), hl, Nat.sub_self, List.set_cons_zero, show l.length - (i + 1) = m by omega]
  simp
theorem eqS_yes (l : List ByteArray) (hl : l.length ≤ 2000000) : Ev (fun k => laws_eqStringS.f k l l) true := by
  have key : ∀ (d i : Nat), i + d = l.length → Ev (fun k => laws_eqStringS.l0 k l l (i : Int)) true := by
    intro d
    induction d with
    | zero =>
      intro i hi
      refine Ev.step (f := fun _ => some true) (fun k => ?_) (Ev.now _)
      simp only [laws_eqStringS.l0]
      rw [if_neg (by omega)]
    | succ d ih =>
      intro i hi
      refine Ev.step (f := fun k => laws_eqStringS.l0 k l l ((i + 1 : Nat) : Int)) (fun k => ?_) (ih (i + 1) (by omega))
      simp only [laws_eqStringS.l0]
      rw [if_pos (by omega), if_pos (by omega), if_pos (by omega), if_pos trivial, w64 (x := (i : Int) + 1) (by omega) (by omega)]
      rfl
  refine Ev.congr (f := fun k => laws_eqStringS.l0 k l l ((0 : Nat) : Int)) (fun k => ?_) (key l.length 0 (by omega))
  simp only [laws_eqStringS.f]
  rw [if_pos trivial]
  rfl
def szL : List ByteArray → Nat
  | [] => 0
  | s :: l => s.size + szL l
def total (l : List ByteArray) : Nat := l.length + szL l
theorem mark_go : ∀ (m n : Nat) (out : ByteArray), n < 10 ^ m → out.size + m ≤ 1000 → n ≤ 1000000000000000000 → ∃ t, Ev (fun k => laws_markText.l0 k (n : Int) out) t := by
  intro m
  induction m with
  | zero =>
    intro n out hn ho _
    have : n = 0 := by simpa using hn
    subst this
    refine ⟨(⟨#[109]⟩ : ByteArray) ++ out, Ev.step (f := fun _ => some ((⟨#[109]⟩ : ByteArray) ++ out)) (fun k => ?_) (Ev.now _)⟩
    simp only [laws_markText.l0]
    rw [if_neg (by omega), if_pos (by omega)]
  | succ m ih =>
    intro n out hn ho hb
    by_cases h0 : n = 0
    · subst h0
      refine ⟨(⟨#[109]⟩ : ByteArray) ++ out, Ev.step (f := fun _ => some ((⟨#[109]⟩ : ByteArray) ++ out)) (fun k => ?_) (Ev.now _)⟩
      simp only [laws_markText.l0]
      rw [if_neg (by omega), if_pos (by omega)]
    · have hs : ∀ x : Int, (strOfNums [x]).size = 1 := fun x => by rw [strOfNums_size]; rfl
      obtain ⟨t, ht⟩ := ih (n / 10) (strOfNums [(wrap64 (48 + (Int.tmod (n : Int) 10))) % 256] ++ out) (by rw [Nat.pow_succ] at hn; omega) (by rw [ByteArray.size_append, hs]; omega) (by omega)
      refine ⟨t, Ev.step (f := fun k => laws_markText.l0 k ((n / 10 : Nat) : Int) (strOfNums [(wrap64 (48 + (Int.tmod (n : Int) 10))) % 256] ++ out)) (fun k => ?_) ht⟩
      simp only [laws_markText.l0]
      rw [if_pos (by omega)]
      simp only [Option.bind_some]
      rw [if_pos (by rw [hs]; omega), Int.tdiv_eq_ediv_of_nonneg (by omega), w64 (x := (n : Int) / 10) (by omega) (by omega)]
      rfl
theorem mark_any (n : Nat) (hn : n ≤ 1000000000000000000) : ∃ t, Ev (fun k => laws_markText.f k (n : Int)) t := by
  by_cases h0 : n = 0
  · subst h0
    exact ⟨_, Ev.congr (f := fun _ => some (⟨#[109, 48]⟩ : ByteArray)) (fun k => by simp [laws_markText.f]) (Ev.now _)⟩
  · obtain ⟨t, ht⟩ := mark_go 19 n ⟨#[]⟩ (by omega) (by simp [ByteArray.size]) hn
    exact ⟨t, Ev.congr (fun k => by simp only [laws_markText.f]; rw [if_neg (by omega)]) ht⟩
noncomputable def mk_ (n : Nat) : ByteArray := if h : n ≤ 1000000000000000000 then Classical.choose (mark_any n h) else ⟨#[]⟩
theorem markT (n : Nat) (hn : n ≤ 1000000000000000000) : Ev (fun k => laws_markText.f k (n : Int)) (mk_ n) := by
  unfold mk_
  rw [dif_pos hn]
  exact Classical.choose_spec (mark_any n hn)
noncomputable def marks (a n : Nat) : List ByteArray := (List.range n).map fun i => mk_ (a + i)
theorem marks_length (a n : Nat) : (marks a n).length = n := by simp [marks]
theorem marks_at (a n i : Nat) (h : i < n) : (marks a n)[i]'(by rw [marks_length]; exact h) = mk_ (a + i) := by simp [marks]
theorem markS_loop (l : List ByteArray) (a : Nat) (hl : l.length ≤ 1000000000) (ha : a ≤ 1000000000) : ∀ (d i : Nat), i + d = l.length → Ev (fun k => laws_markStringS.l0 k ((marks a i) ++ l.drop i) ((a + i : Nat) : Int) (i : Int)) (((a + l.length : Nat) : Int), marks a l.length) := by
  intro d
  induction d with
  | zero =>
    intro i hi
    have hi' : i = l.length := by omega
    subst hi'
    refine Ev.step (f := fun _ => some (((a + l.length : Nat) : Int), marks a l.length)) (fun k => ?_) (Ev.now _)
    simp only [laws_markStringS.l0]
    rw [if_neg (by simp [marks_length]), List.drop_length, List.append_nil]
  | succ d ih =>
    intro i hi
    have hlt : i < l.length := by omega
    refine Ev.step (f := fun k => (laws_markText.f k ((a + i : Nat) : Int)).bind fun t => laws_markStringS.l0 k (((marks a i) ++ l.drop i).set i t) ((a + (i + 1) : Nat) : Int) ((i + 1 : Nat) : Int)) (fun k => ?_) ?_
    · simp only [laws_markStringS.l0]
      rw [if_pos (by simp only [List.length_append, marks_length, List.length_drop]; omega)]
      congr 1
      funext t
      rw [if_pos (by omega), w64 (x := ((a + i : Nat) : Int) + 1) (by omega) (by omega), w64 (x := (i : Int) + 1) (by omega) (by omega)]
      rfl
    · refine ev_bind (markT (a + i) (by omega)) ?_
      have hset : ((marks a i) ++ l.drop i).set i (mk_ (a + i)) = marks a (i + 1) ++ l.drop (i + 1) := by
        rw [List.set_append_right _ _ (by rw [marks_length]; omega), marks_length, Nat.sub_self, List.drop_eq_getElem_cons hlt, List.set_cons_zero]
        simp [marks, List.range_succ]
      rw [hset]
      exact ih (i + 1) (by omega)
theorem markS (l : List ByteArray) (a : Nat) (hl : l.length ≤ 1000000000) (ha : a ≤ 1000000000) : Ev (fun k => laws_markStringS.f k l (a : Int)) (((a + l.length : Nat) : Int), marks a l.length) := by
  have := markS_loop l a hl ha l.length 0 (by omega)
  simp only [List.drop_zero, marks, List.range_zero, List.map_nil, List.nil_append, Nat.add_zero] at this
  exact this
theorem heldS (n a : Nat) (hl : n ≤ 1000000000) (ha : a ≤ 1000000000) : Ev (fun k => laws_heldStringS.f k (marks a n) (a : Int)) ((a + n : Nat) : Int) := by
  have key : ∀ (d i : Nat), i + d = n → Ev (fun k => laws_heldStringS.l0 k (marks a n) ((a + i : Nat) : Int) (i : Int)) ((a + n : Nat) : Int) := by
    intro d
    induction d with
    | zero =>
      intro i hi
      refine Ev.step (f := fun _ => some ((a + n : Nat) : Int)) (fun k => ?_) (Ev.now _)
      simp only [laws_heldStringS.l0]
      rw [if_neg (by rw [marks_length]; omega), show i = n by omega]
    | succ d ih =>
      intro i hi
      have hlt : i < (marks a n).length := by rw [marks_length]; omega
      refine Ev.step (f := fun k => (laws_markText.f k ((a + i : Nat) : Int)).bind fun t => if (mk_ (a + i)).toList = t.toList then laws_heldStringS.l0 k (marks a n) ((a + (i + 1) : Nat) : Int) ((i + 1 : Nat) : Int) else some (-1)) (fun k => ?_) ?_
      · simp only [laws_heldStringS.l0]
        rw [if_pos (by rw [marks_length]; omega), if_pos (by omega), rdOf_at _ _ _ hlt, marks_at _ _ _ (by omega), w64 (x := ((a + i : Nat) : Int) + 1) (by omega) (by omega), w64 (x := (i : Int) + 1) (by omega) (by omega)]
        rfl
      · exact ev_bind (markT (a + i) (by omega)) (ev_pos rfl (ih (i + 1) (by omega)))
  exact key n 0 (by omega)
end Go.Proofs.Ytfajabboibcgpaa.PL
end
section
namespace Go.Proofs.Ytfajabboibcgpaa.PS
open Go.RowKit Go.Proofs.YtfajabboibcgpaaW.PrintWords Go.Proofs.YtfajabboibcgpaaW.PrintLast Go.Proofs.YtfajabboibcgpaaW.PrintMore Go.Proofs.Ytfajabboibcgpaa.PB Go.Proofs.Ytfajabboibcgpaa.PD Go.Proofs.Ytfajabboibcgpaa.PK Go.Proofs.Ytfajabboibcgpaa.PL Go.Proofs.Ytfajabboibcgpaa.PA
set_option linter.unusedVariables false
end Go.Proofs.Ytfajabboibcgpaa.PS
end
section
namespace Go.Proofs.Ytfajabboibcgpaa.PT
open Go.RowKit Go.Proofs.YtfajabboibcgpaaW.PrintWords Go.Proofs.YtfajabboibcgpaaW.PrintLast Go.Proofs.YtfajabboibcgpaaW.PrintMore Go.Proofs.Ytfajabboibcgpaa.PB Go.Proofs.Ytfajabboibcgpaa.PD Go.Proofs.Ytfajabboibcgpaa.PK Go.Proofs.Ytfajabboibcgpaa.PL Go.Proofs.Ytfajabboibcgpaa.PS Go.Proofs.Ytfajabboibcgpaa.PA
set_option linter.unusedVariables false
theorem inS (a b c : Int) : spec_l1In.f a b c = some (decide (b ≤ a ∧ a ≤ c)) := by
  unfold spec_l1In.f
  by_cases h : a ≥ b
  · rw [if_pos h]; simp [show b ≤ a from h]
  · rw [if_neg h]; simp [show ¬ b ≤ a from h]
theorem inI (a b c : Int) : impl_within.f a b c = some (decide (b ≤ a ∧ a ≤ c)) := by
  unfold impl_within.f
  by_cases h : a ≥ b
  · rw [if_pos h]; simp [show b ≤ a from h]
  · rw [if_neg h]; simp [show ¬ b ≤ a from h]
end Go.Proofs.Ytfajabboibcgpaa.PT
end
section
namespace Go.Proofs.Ytfajabboibcgpaa.PU
open Go.RowKit Go.Proofs.YtfajabboibcgpaaW.PrintWords Go.Proofs.YtfajabboibcgpaaW.PrintLast Go.Proofs.YtfajabboibcgpaaW.PrintMore Go.Proofs.Ytfajabboibcgpaa.PB Go.Proofs.Ytfajabboibcgpaa.PD Go.Proofs.Ytfajabboibcgpaa.PK Go.Proofs.Ytfajabboibcgpaa.PL Go.Proofs.Ytfajabboibcgpaa.PS Go.Proofs.Ytfajabboibcgpaa.PT Go.Proofs.Ytfajabboibcgpaa.PA
set_option linter.unusedVariables false
theorem idx_any {α : Type} (l : List α) (rf : List α → Int → α) (hrf : ∀ i (h : i < l.length), rf l (i : Int) = l[i]) (L0 : Nat → List α → Int → Int → Option Int) (cl : Nat → α → Option Bool) (p : α → Bool)
    (hstep : ∀ k n i, L0 (k + 1) l n i = if i < n then (if 0 ≤ i then (if i < (l.length : Int) then ((cl k (rf l i)).bind fun t => if t = true then some i else L0 k l n (wrap64 (i + 1))) else none) else none) else some (-1))
    (hp : ∀ x ∈ l, Ev (fun k => cl k x) (p x)) (hl : l.length ≤ 4000000000000000000) : ∃ r, Ev (fun k => L0 k l (l.length : Int) 0) r ∧ decide (r ≥ 0) = l.any p := by
  have key : ∀ (d i : Nat), i + d = l.length → ∃ r, Ev (fun k => L0 k l (l.length : Int) (i : Int)) r ∧ decide (r ≥ 0) = (l.drop i).any p := by
    intro d
    induction d with
    | zero =>
      intro i hi
      refine ⟨-1, Ev.step (f := fun _ => some (-1)) (fun k => ?_) (Ev.now _), ?_⟩
      · rw [hstep, if_neg (by omega)]
      · rw [List.drop_eq_nil_of_le (by omega)]; rfl
    | succ d ih =>
      intro i hi
      have hlt : i < l.length := by omega
      have hpx := hp _ (List.getElem_mem hlt)
      rw [List.drop_eq_getElem_cons hlt, List.any_cons]
      have st : ∀ k, L0 (k + 1) l (l.length : Int) (i : Int) = (cl k l[i]).bind fun t => if t = true then some (i : Int) else L0 k l (l.length : Int) ((i + 1 : Nat) : Int) := by
        intro k
        rw [hstep, if_pos (by omega), if_pos (by omega), if_pos (by omega), hrf i hlt, w64 (x := (i : Int) + 1) (by omega) (by omega)]
        rfl
      cases hb : p l[i] with
      | true =>
        rw [hb] at hpx
        refine ⟨(i : Int), Ev.step (f := fun k => (cl k l[i]).bind fun t => if t = true then some (i : Int) else L0 k l (l.length : Int) ((i + 1 : Nat) : Int)) st (ev_bind hpx (ev_pos rfl (Ev.now _))), ?_⟩
        simp only [Bool.true_or]
        exact decide_eq_true (by omega)
      | false =>
        rw [hb] at hpx
        obtain ⟨r, hr, e⟩ := ih (i + 1) (by omega)
        refine ⟨r, Ev.step (f := fun k => (cl k l[i]).bind fun t => if t = true then some (i : Int) else L0 k l (l.length : Int) ((i + 1 : Nat) : Int)) st (ev_bind hpx (ev_neg (by simp) hr)), ?_⟩
        rw [Bool.false_or]; exact e
  obtain ⟨r, hr, e⟩ := key l.length 0 (by omega)
  exact ⟨r, hr, by rw [e, List.drop_zero]⟩
theorem isDigI (s : ByteArray) : impl_isDigest.f s = some (decide (s.size = 4)) := by
  unfold impl_isDigest.f
  refine congrArg some ?_
  by_cases h : s.size = 4
  · rw [decide_eq_true h, h]; rfl
  · rw [decide_eq_false h]; exact beq_eq_false_iff_ne.mpr (by omega)
end Go.Proofs.Ytfajabboibcgpaa.PU
end
section
namespace Go.Proofs.Ytfajabboibcgpaa.PG
open Go.RowKit Go.Proofs.YtfajabboibcgpaaW.PrintWords Go.Proofs.YtfajabboibcgpaaW.PrintLast Go.Proofs.YtfajabboibcgpaaW.PrintMore Go.Proofs.Ytfajabboibcgpaa.PB Go.Proofs.Ytfajabboibcgpaa.PL
set_option linter.unusedVariables false
theorem loop_up {β : Type} {r : β} (n : Nat) (S : Nat → Nat → Option β) (hend : Ev (S n) r) (hround : ∀ i, i < n → Ev (S (i + 1)) r → Ev (S i) r) : Ev (S 0) r := by
  have key : ∀ d i, i + d = n → Ev (S i) r := by
    intro d
    induction d with
    | zero => intro i hi; rw [show i = n by omega]; exact hend
    | succ d ih => intro i hi; exact hround i (by omega) (ih (i + 1) (by omega))
  exact key n 0 (by omega)
def wsum {α : Type} (wt : α → Nat) : List α → Nat
  | [] => 0
  | x :: l => wt x + wsum wt l
def left (R : Int) (w : Nat) : Int := if (w : Int) ≤ R then R - w else -1
theorem left_yes {R : Int} {w : Nat} (h : (w : Int) ≤ R) : left R w = R - w := if_pos h
theorem left_no {R : Int} {w : Nat} (h : ¬ (w : Int) ≤ R) : left R w = -1 := if_neg h
theorem left_add {R : Int} {a b : Nat} (h : (a : Int) ≤ R) : left (R - a) b = left R (a + b) := by
  unfold left
  by_cases hb : (b : Int) ≤ R - a
  · rw [if_pos hb, if_pos (by omega)]; omega
  · rw [if_neg hb, if_neg (by omega)]
theorem sz_list {α : Type} (wt : α → Nat) (l : List α) (rf : List α → Int → α) (hrf : ∀ i (h : i < l.length), rf l (i : Int) = l[i]) (L0 : Nat → List α → Int → Int → Option Int) (F : Nat → List α → Int → Option Int) (e : Nat → α → Int → Option Int)
    (hstep : ∀ k R i, L0 (k + 1) l R i = if i < (l.length : Int) then (if 0 ≤ i then ((e k (rf l i) R).bind fun t => if t < 0 then some (-1) else L0 k l t (wrap64 (i + 1))) else none) else some R)
    (hF : ∀ k R, F k l R = if wrap64 (R - (l.length : Int)) < 0 then some (-1) else L0 k l (wrap64 (R - (l.length : Int))) 0)
    (he : ∀ x ∈ l, ∀ R, 0 ≤ R → R ≤ 1000000000000 → Ev (fun k => e k x R) (left R (wt x))) (hl : l.length ≤ 9223372036854775807) (R : Int) (h0 : 0 ≤ R) (h1 : R ≤ 1000000000) :
    Ev (fun k => F k l R) (left R (l.length + wsum wt l)) := by
  have key : ∀ (d i : Nat) (R : Int), i + d = l.length → 0 ≤ R → R ≤ 1000000000000 → l.length ≤ 1000000000000 → Ev (fun k => L0 k l R (i : Int)) (left R (wsum wt (l.drop i))) := by
    intro d
    induction d with
    | zero =>
      intro i R hi h0 h1 h2
      rw [List.drop_eq_nil_of_le (by omega)]
      refine Ev.step (f := fun _ => some R) (fun k => by rw [hstep, if_neg (by omega)]) ?_
      refine ev_eq (Ev.now R) ?_
      show R = left R 0
      unfold left
      rw [if_pos (by omega)]; omega
    | succ d ih =>
      intro i R hi h0 h1 h2
      have hlt : i < l.length := by omega
      have hx := he _ (List.getElem_mem hlt) R h0 h1
      rw [List.drop_eq_getElem_cons hlt, show wsum wt (l[i] :: l.drop (i + 1)) = wt l[i] + wsum wt (l.drop (i + 1)) from rfl]
      refine Ev.step (f := fun k => (e k l[i] R).bind fun t => if t < 0 then some (-1) else L0 k l t ((i + 1 : Nat) : Int)) (fun k => ?_) ?_
      · rw [hstep, if_pos (by omega), if_pos (by omega), hrf i hlt, w64 (x := (i : Int) + 1) (by omega) (by omega)]; rfl
      · refine ev_bind hx ?_
        by_cases hc : ((wt l[i] : Nat) : Int) ≤ R
        · rw [left_yes hc]
          refine ev_neg (by omega) ?_
          refine ev_eq (ih (i + 1) (R - wt l[i]) (by omega) (by omega) (by omega) h2) (left_add hc)
        · rw [left_no hc]
          refine ev_pos (by omega) (ev_eq (Ev.now _) ?_)
          unfold left
          rw [if_neg (by omega)]
  by_cases hc : (l.length : Int) ≤ R
  · refine Ev.congr (f := fun k => L0 k l (R - l.length) ((0 : Nat) : Int)) (fun k => ?_) ?_
    · rw [hF, w64 (x := R - (l.length : Int)) (by omega) (by omega), if_neg (by omega)]; rfl
    · refine ev_eq (key l.length 0 (R - l.length) (by omega) (by omega) (by omega) (by omega)) ?_
      rw [List.drop_zero]; exact left_add hc
  · refine Ev.congr (f := fun _ => some (-1)) (fun k => ?_) (ev_eq (Ev.now _) ?_)
    · rw [hF, w64 (x := R - (l.length : Int)) (by omega) (by omega), if_pos (by omega)]
    · unfold left; rw [if_neg (by omega)]
theorem to_list {α β : Type} (f : α → β) (z : β) (l : List α) (L0 : Nat → List α → List β → Int → Option (List β)) (hl : l.length ≤ 2000000)
    (hend : ∀ k out, L0 (k + 1) l out (l.length : Int) = some out)
    (hround : ∀ i (h : i < l.length) (out : List β), out.length = l.length → ∀ r, Ev (fun k => L0 k l (out.set i (f l[i])) ((i + 1 : Nat) : Int)) r → Ev (fun k => L0 k l out (i : Int)) r) :
    Ev (fun k => L0 k l (List.replicate l.length z) 0) (l.map f) := by
  have h := loop_up (r := l.map f) l.length (fun i k => L0 k l (filled f z l i) (i : Int)) ?_ ?_
  · rw [← filled_zero f z l]; exact h
  · refine Ev.step (f := fun _ => some (l.map f)) (fun k => ?_) (Ev.now _)
    rw [hend, filled_all]
  · intro i hi h
    refine hround i hi _ (filled_length _ _ _ _ (by omega)) _ ?_
    rw [filled_set f z l i hi]
    exact h
theorem eq_list {α : Type} (l : List α) (L0 : Nat → List α → List α → Int → Option Bool) (F : Nat → List α → List α → Option Bool) (hend : ∀ k, L0 (k + 1) l l (l.length : Int) = some true)
    (hF : ∀ k, F k l l = L0 k l l 0) (hround : ∀ i (h : i < l.length), Ev (fun k => L0 k l l ((i + 1 : Nat) : Int)) true → Ev (fun k => L0 k l l (i : Int)) true) : Ev (fun k => F k l l) true := by
  refine Ev.congr (f := fun k => L0 k l l ((0 : Nat) : Int)) (fun k => hF k) ?_
  exact loop_up l.length (fun i k => L0 k l l (i : Int)) (Ev.step (f := fun _ => some true) (fun k => hend k) (Ev.now _)) (fun i hi h => hround i hi h)
end Go.Proofs.Ytfajabboibcgpaa.PG
end
section
namespace Go.Proofs.Ytfajabboibcgpaa.PQ
open Go.RowKit Go.Proofs.YtfajabboibcgpaaW.PrintWords Go.Proofs.YtfajabboibcgpaaW.PrintLast Go.Proofs.YtfajabboibcgpaaW.PrintMore Go.Proofs.Ytfajabboibcgpaa.PB Go.Proofs.Ytfajabboibcgpaa.PD Go.Proofs.Ytfajabboibcgpaa.PK Go.Proofs.Ytfajabboibcgpaa.PL Go.Proofs.Ytfajabboibcgpaa.PS Go.Proofs.Ytfajabboibcgpaa.PT Go.Proofs.Ytfajabboibcgpaa.PU Go.Proofs.Ytfajabboibcgpaa.PG Go.Proofs.Ytfajabboibcgpaa.PA
set_option linter.unusedVariables false
def rowFrom : ByteArray → List ByteArray → ByteArray
  | acc, [] => acc
  | acc, s :: l => rowFrom (acc ++ (one (s.size : Int) ++ s)) l
def rowM (l : List ByteArray) : ByteArray := rowFrom ⟨#[]⟩ l
theorem rowFrom_size (l : List ByteArray) : ∀ acc, (rowFrom acc l).size = acc.size + total l := by
  induction l with
  | nil => intro acc; simp [rowFrom, total, szL]
  | cons s l ih =>
    intro acc
    have e : total (s :: l) = 1 + s.size + total l := by simp only [total, szL, List.length_cons]; omega
    rw [show rowFrom acc (s :: l) = rowFrom (acc ++ (one (s.size : Int) ++ s)) l from rfl, ih, app_size, app_size, one_size, e]; omega
theorem rowM_size (l : List ByteArray) : (rowM l).size = total l := by
  unfold rowM; rw [rowFrom_size]; exact Nat.zero_add _
theorem rowS (l : List ByteArray) (hl : total l ≤ 1000000000) : Ev (fun k => spec_l1Row.f k l) (rowM l) := by
  have hlen : l.length ≤ 1000000000 := by unfold total at hl; omega
  have key : ∀ (d i : Nat) (acc : ByteArray), i + d = l.length → acc.size + total (l.drop i) ≤ 2000000000 → Ev (fun k => spec_l1Row.l0 k acc l (l.length : Int) (i : Int)) (rowFrom acc (l.drop i)) := by
    intro d
    induction d with
    | zero =>
      intro i acc hi _
      rw [List.drop_eq_nil_of_le (by omega)]
      refine Ev.step (f := fun _ => some acc) (fun k => ?_) (Ev.now _)
      simp only [spec_l1Row.l0]; rw [if_neg (by omega)]
    | succ d ih =>
      intro i acc hi ha
      have hlt : i < l.length := by omega
      rw [List.drop_eq_getElem_cons hlt] at ha ⊢
      have e : total (l[i] :: l.drop (i + 1)) = 1 + l[i].size + total (l.drop (i + 1)) := by simp only [total, szL, List.length_cons]; omega
      rw [e] at ha
      refine Ev.step (f := fun k => spec_l1Row.l0 k (acc ++ (one (l[i].size : Int) ++ l[i])) l (l.length : Int) ((i + 1 : Nat) : Int)) (fun k => ?_) ?_
      · simp only [spec_l1Row.l0]
        rw [if_pos (by omega), if_pos (by omega), if_pos (by omega), rdOf_at _ _ _ hlt, w64 (x := (i : Int) + 1) (by omega) (by omega)]
        have e1 : (strOfNums [(l[i].size : Int) % 256]).size = 1 := by rw [strOfNums_size]; rfl
        simp only [Option.bind_some]
        rw [if_pos (by omega), if_pos (by rw [app_size]; omega)]
        rfl
      · exact ih (i + 1) _ (by omega) (by rw [app_size, app_size, one_size]; omega)
  exact key l.length 0 ⟨#[]⟩ (by omega) (by rw [List.drop_zero]; show 0 + total l ≤ _; omega)
theorem kindI (c : Int) : impl_isKind.f c = some (decide (97 ≤ c ∧ c ≤ 122)) := by
  unfold impl_isKind.f
  by_cases h : c ≥ 97
  · rw [if_pos h]; simp [show 97 ≤ c from h]
  · rw [if_neg h]; simp [show ¬ 97 ≤ c from h]
def digestOfM (kind : Int) (s : ByteArray) : ByteArray × Bool := if (97 ≤ kind ∧ kind ≤ 122) ∧ s.size ≤ 600 then (dig kind s, true) else (⟨#[]⟩, false)
theorem digestOfI (kind : Int) (s : ByteArray) : Ev (fun k => impl_DigestOf.f k kind s) (digestOfM kind s) := by
  unfold digestOfM
  by_cases h1 : 97 ≤ kind ∧ kind ≤ 122
  · by_cases h2 : s.size ≤ 600
    · rw [if_pos ⟨h1, h2⟩]
      exact ev_const (kindI kind) (ev_pos (decide_eq_true h1) (ev_neg (by omega) (ev_bind (digI kind h1 s (by omega)) (Ev.now _))))
    · rw [if_neg (fun h => h2 h.2)]
      exact ev_const (kindI kind) (ev_pos (decide_eq_true h1) (ev_pos (by omega) (Ev.now _)))
  · rw [if_neg (fun h => h1 h.1)]
    exact ev_const (kindI kind) (ev_neg (by simp [h1]) (Ev.now _))
def small (l : List ByteArray) : Bool := l.all fun s => decide (s.size ≤ 100)
def listDigestM (kind : Int) (l : List ByteArray) : ByteArray × Bool := if l.length ≤ 20 then (if small l = true then digestOfM kind (rowM l) else (⟨#[]⟩, false)) else (⟨#[]⟩, false)
theorem listDigestI (kind : Int) (l : List ByteArray) : Ev (fun k => impl_ListDigest.f k kind l) (listDigestM kind l) := by
  unfold listDigestM impl_ListDigest.f
  by_cases hl : l.length ≤ 20
  · rw [if_pos hl]
    refine ev_neg (by omega) ?_
    have key : ∀ (d i : Nat) (acc : ByteArray), i + d = l.length → acc.size ≤ 101 * i → Ev (fun k => impl_ListDigest.l0 k kind acc l (l.length : Int) (i : Int)) (if small (l.drop i) = true then digestOfM kind (rowFrom acc (l.drop i)) else (⟨#[]⟩, false)) := by
      intro d
      induction d with
      | zero =>
        intro i acc hi _
        rw [List.drop_eq_nil_of_le (by omega), show small [] = true from rfl, if_pos rfl]
        refine Ev.step (f := fun k => (impl_DigestOf.f k kind acc).bind fun b => some (b.1, b.2)) (fun k => ?_) (ev_bind (digestOfI kind acc) (Ev.now _))
        simp only [impl_ListDigest.l0]; rw [if_neg (by omega)]
      | succ d ih =>
        intro i acc hi ha
        have hlt : i < l.length := by omega
        rw [List.drop_eq_getElem_cons hlt]
        by_cases hs : l[i].size ≤ 100
        · have e0 : small (l[i] :: l.drop (i + 1)) = small (l.drop (i + 1)) := by simp only [small, List.all_cons, decide_eq_true hs, Bool.true_and]
          rw [e0]
          refine Ev.step (f := fun k => impl_ListDigest.l0 k kind (acc ++ (one (l[i].size : Int) ++ l[i])) l (l.length : Int) ((i + 1 : Nat) : Int)) (fun k => ?_) ?_
          · simp only [impl_ListDigest.l0]
            rw [if_pos (by omega), if_pos (by omega), if_pos (by omega), rdOf_at _ _ _ hlt, if_neg (by omega), oneI, w64 (x := (i : Int) + 1) (by omega) (by omega)]
            simp only [Option.bind_some]
            rw [if_pos (by rw [one_size]; omega), if_pos (by rw [app_size, one_size]; omega)]
            rfl
          · exact ih (i + 1) _ (by omega) (by rw [app_size, app_size, one_size]; omega)
        · have e0 : small (l[i] :: l.drop (i + 1)) = false := by simp only [small, List.all_cons, decide_eq_false hs, Bool.false_and]
          rw [e0, if_neg (by simp)]
          refine Ev.step (f := fun _ => some (⟨#[]⟩, false)) (fun k => ?_) (Ev.now _)
          simp only [impl_ListDigest.l0]
          rw [if_pos (by omega), if_pos (by omega), if_pos (by omega), rdOf_at _ _ _ hlt, if_pos (by omega)]
    have := key l.length 0 ⟨#[]⟩ (by omega) (by simp [ByteArray.size])
    rw [List.drop_zero] at this
    exact this
  · rw [if_neg hl]
    exact ev_pos (by omega) (Ev.now _)
def nameOk (s : ByteArray) : Bool := decide (1 ≤ (s.size : Int) ∧ (s.size : Int) ≤ 8)
theorem nameS (s : ByteArray) : spec_l15Name.f s = some (nameOk s) := by unfold spec_l15Name.f; rw [inS]; rfl
theorem nameI (s : ByteArray) : impl_isName.f s = some (nameOk s) := by unfold impl_isName.f; rw [inI]; rfl
theorem nameOk_size {s : ByteArray} (h : nameOk s = true) : 1 ≤ s.size ∧ s.size ≤ 8 := by
  have := of_decide_eq_true h
  omega
def threeOk (a b c : ByteArray) : Bool := nameOk a && (nameOk b && decide ((c.size : Int) ≤ 40))
def commitM (a b c : ByteArray) : ByteArray := dig 98 (rowM [a, b, c])
theorem kb : Kd_ 98 := ⟨by decide, by decide⟩
theorem total3 {a b c : ByteArray} (h : threeOk a b c = true) : total [a, b, c] ≤ 100 ∧ c.size ≤ 40 ∧ nameOk a = true ∧ nameOk b = true := by
  simp only [threeOk, Bool.and_eq_true, decide_eq_true_eq] at h
  have h1 := nameOk_size h.1
  have h2 := nameOk_size h.2.1
  have h3 := h.2.2
  simp only [total, szL, List.length_cons, List.length_nil]
  exact ⟨by omega, by omega, h.1, h.2.1⟩
theorem goodS (a b c : ByteArray) : spec_l15Good.f a b c = some (threeOk a b c) := by
  unfold spec_l15Good.f threeOk
  rw [nameS, nameS]
  cases ha : nameOk a <;> cases hb : nameOk b <;> rfl
theorem commitS (a b c : ByteArray) (h : threeOk a b c = true) : Ev (fun k => spec_l15Commit.f k a b c) (commitM a b c) := by
  have ht := (total3 h).1
  exact ev_bind (rowS [a, b, c] (by omega)) (ev_bind (digS 98 kb _ (by rw [rowM_size]; omega)) (Ev.now _))
theorem commitI (a b c : ByteArray) : Ev (fun k => impl_CommitOf.f k a b c) (if threeOk a b c = true then (commitM a b c, true) else (⟨#[]⟩, false)) := by
  refine ev_const (nameI a) ?_
  cases ha : nameOk a with
  | false =>
    have e : threeOk a b c = false := by simp [threeOk, ha]
    rw [e, if_neg (by simp)]
    exact ev_neg (by simp) (Ev.now _)
  | true =>
    refine ev_pos rfl (ev_const (nameI b) ?_)
    cases hb : nameOk b with
    | false =>
      have e : threeOk a b c = false := by simp [threeOk, ha, hb]
      rw [e, if_neg (by simp)]
      exact ev_neg (by simp) (Ev.now _)
    | true =>
      refine ev_pos rfl ?_
      by_cases hc : (c.size : Int) ≤ 40
      · have e : threeOk a b c = true := by simp [threeOk, ha, hb, hc]
        have ht := total3 e
        rw [e, if_pos rfl]
        refine ev_neg (by omega) (ev_bind (listDigestI 98 [a, b, c]) ?_)
        have h1 := nameOk_size ha
        have h2 := nameOk_size hb
        have hsm : small [a, b, c] = true := by
          simp only [small, List.all_cons, List.all_nil, Bool.and_true, Bool.and_eq_true, decide_eq_true_eq]; omega
        have e2 : listDigestM 98 [a, b, c] = (commitM a b c, true) := by
          unfold listDigestM digestOfM
          rw [if_pos (by simp), if_pos hsm, if_pos ⟨by decide, by rw [rowM_size]; omega⟩]; rfl
        rw [e2]
        exact Ev.now _
      · have e : threeOk a b c = false := by simp [threeOk, ha, hb, hc]
        rw [e, if_neg (by simp)]
        exact ev_pos (by omega) (Ev.now _)
def emptyB (s : ByteArray) : Bool := s.toList == ([] : List UInt8)
def slotOk (a b c d : ByteArray) (o : Bool) : Bool :=
  if o = true then nameOk a && (decide (c.size = 4) && (emptyB b && emptyB d)) else threeOk a b d && decide (c = commitM a b d)
theorem slotS (a b c d : ByteArray) (o : Bool) : Ev (fun k => spec_l15Slot.f k a b c d o) (slotOk a b c d o) := by
  unfold slotOk spec_l15Slot.f
  cases o with
  | true =>
    refine ev_pos rfl (ev_const (nameS a) ?_)
    rw [if_pos rfl]
    cases ha : nameOk a with
    | false => exact ev_neg (by simp) (Ev.now _)
    | true =>
      refine ev_pos rfl ?_
      rw [Bool.true_and]
      by_cases hc : c.size = 4
      · refine ev_pos (by omega) ?_
        rw [decide_eq_true hc, Bool.true_and]
        by_cases hb : b.toList = ([] : List UInt8)
        · refine ev_pos hb ?_
          rw [show emptyB b = true from beq_iff_eq.2 hb, Bool.true_and]
          exact Ev.now _
        · refine ev_neg hb ?_
          rw [show emptyB b = false from beq_eq_false_iff_ne.2 hb, Bool.false_and]
          exact Ev.now _
      · refine ev_neg (by omega) ?_
        rw [decide_eq_false hc, Bool.false_and]
        exact Ev.now _
  | false =>
    refine ev_neg (by simp) (ev_const (goodS a b d) ?_)
    rw [if_neg (by simp)]
    cases hg : threeOk a b d with
    | false => exact ev_neg (by simp) (Ev.now _)
    | true =>
      refine ev_pos rfl (ev_bind (commitS a b d hg) ?_)
      rw [Bool.true_and]
      refine ev_eq (Ev.now _) ?_
      rw [ba_beq]
theorem slotI (a b c d : ByteArray) (o : Bool) : Ev (fun k => impl_isSlot.f k a b c d o) (slotOk a b c d o) := by
  unfold slotOk impl_isSlot.f
  cases o with
  | true =>
    refine ev_pos rfl (ev_const (nameI a) ?_)
    rw [if_pos rfl]
    cases ha : nameOk a with
    | false => exact ev_neg (by simp) (Ev.now _)
    | true =>
      refine ev_pos rfl (ev_const (isDigI c) ?_)
      rw [Bool.true_and]
      by_cases hc : c.size = 4
      · refine ev_pos (decide_eq_true hc) ?_
        rw [decide_eq_true hc, Bool.true_and]
        by_cases hb : b.toList = ([] : List UInt8)
        · refine ev_pos hb ?_
          rw [show emptyB b = true from beq_iff_eq.2 hb, Bool.true_and]
          exact Ev.now _
        · refine ev_neg hb ?_
          rw [show emptyB b = false from beq_eq_false_iff_ne.2 hb, Bool.false_and]
          exact Ev.now _
      · refine ev_neg (by simp [hc]) ?_
        rw [decide_eq_false hc, Bool.false_and]
        exact Ev.now _
  | false =>
    show Ev _ (threeOk a b d && decide (c = commitM a b d))
    refine ev_neg (by simp) (ev_bind (commitI a b d) ?_)
    cases hg : threeOk a b d with
    | false => exact ev_neg (by simp) (Ev.now _)
    | true =>
      refine ev_pos rfl ?_
      rw [Bool.true_and]
      refine ev_eq (Ev.now _) ?_
      show ((commitM a b d).toList == c.toList) = _
      rw [ba_beq]
      by_cases h : c = commitM a b d
      · rw [decide_eq_true h, h]; simp
      · rw [decide_eq_false h, decide_eq_false (fun e => h e.symm)]
end Go.Proofs.Ytfajabboibcgpaa.PQ
end
section
namespace Go.Proofs.Ytfajabboibcgpaa.PV
open Go.RowKit Go.Proofs.YtfajabboibcgpaaW.PrintWords Go.Proofs.YtfajabboibcgpaaW.PrintLast Go.Proofs.YtfajabboibcgpaaW.PrintMore Go.Proofs.Ytfajabboibcgpaa.PB Go.Proofs.Ytfajabboibcgpaa.PD Go.Proofs.Ytfajabboibcgpaa.PK Go.Proofs.Ytfajabboibcgpaa.PL Go.Proofs.Ytfajabboibcgpaa.PS Go.Proofs.Ytfajabboibcgpaa.PT Go.Proofs.Ytfajabboibcgpaa.PU Go.Proofs.Ytfajabboibcgpaa.PG Go.Proofs.Ytfajabboibcgpaa.PQ Go.Proofs.Ytfajabboibcgpaa.PA
set_option linter.unusedVariables false
theorem rdI_at (l : List S72) (i : Nat) (h : i < l.length) : rd_T72 l (i : Int) = l[i] := by
  simp [rd_T72, List.getD_eq_getElem?_getD, List.getElem?_eq_getElem h]
theorem rdL_at (l : List S113) (i : Nat) (h : i < l.length) : rd_T113 l (i : Int) = l[i] := by
  simp [rd_T113, List.getD_eq_getElem?_getD, List.getElem?_eq_getElem h]
def slotB (x : S72) : Bool := slotOk x.f0 x.f1 x.f2 x.f3 x.f4
def shelfOk (l : List S72) : Bool := decide ((l.length : Int) ≤ 20) && l.all slotB
theorem goodShelfS (l : List S72) (hl : l.length ≤ 2000000) : Ev (fun k => spec_GoodShelf.f k l) (shelfOk l) := by
  have key : ∀ (d i : Nat), i + d = l.length → Ev (fun k => spec_GoodShelf.l0 k l l (l.length : Int) (i : Int)) (decide ((l.length : Int) ≤ 20) && (l.drop i).all slotB) := by
    intro d
    induction d with
    | zero =>
      intro i hi
      rw [List.drop_eq_nil_of_le (by omega), List.all_nil, Bool.and_true]
      refine Ev.step (f := fun _ => some (decide ((l.length : Int) ≤ 20))) (fun k => ?_) (Ev.now _)
      simp only [spec_GoodShelf.l0]; rw [if_neg (by omega)]
    | succ d ih =>
      intro i hi
      have hlt : i < l.length := by omega
      rw [List.drop_eq_getElem_cons hlt, List.all_cons]
      refine Ev.step (f := fun k => (spec_l15Slot.f k l[i].f0 l[i].f1 l[i].f2 l[i].f3 l[i].f4).bind fun t => if t = true then spec_GoodShelf.l0 k l l (l.length : Int) ((i + 1 : Nat) : Int) else some false) (fun k => ?_) ?_
      · simp only [spec_GoodShelf.l0]
        rw [if_pos (by omega), if_pos (by omega), if_pos (by omega), rdI_at l i hlt, w64 (x := (i : Int) + 1) (by omega) (by omega)]
        rfl
      · refine ev_bind (slotS _ _ _ _ _) ?_
        show Ev _ (decide ((l.length : Int) ≤ 20) && (slotB l[i] && _))
        unfold slotB
        cases hb : slotOk l[i].f0 l[i].f1 l[i].f2 l[i].f3 l[i].f4 with
        | true => rw [Bool.true_and]; exact ev_pos rfl (ih (i + 1) (by omega))
        | false => rw [Bool.false_and, Bool.and_false]; exact ev_neg (by simp) (Ev.now _)
  exact key l.length 0 (by omega)
theorem goodShelfI (l : List S72) (hl : l.length ≤ 2000000) : Ev (fun k => impl_GoodShelf.f k l) (shelfOk l) := by
  unfold shelfOk impl_GoodShelf.f
  by_cases h : (l.length : Int) ≤ 20
  · refine ev_pos h ?_
    rw [decide_eq_true h, Bool.true_and]
    obtain ⟨r, hr, e⟩ := idx_any l rd_T72 (fun i h => rdI_at l i h) slices_IndexFunc_impl_GoodShelf_1.l0 (fun k x => impl_GoodShelf_1.f k x.f0 x.f1 x.f2 x.f3 x.f4) (fun x => !slotB x) (fun k n i => rfl) (fun x _ => ev_bind (f := fun _ t => some (!t)) (slotI _ _ _ _ _) (Ev.now _)) (by omega)
    have hc : Ev (fun k => slices_ContainsFunc_impl_GoodShelf_1.f k l) (l.any fun x => !slotB x) := by
      rw [← e]
      exact ev_bind (f := fun _ t => some (decide (t ≥ 0))) hr (Ev.now _)
    refine ev_eq (ev_bind (f := fun _ t => some (!t)) hc (Ev.now _)) ?_
    have : ∀ l : List S72, (!(l.any fun x => !slotB x)) = l.all slotB := by
      intro l
      induction l with
      | nil => rfl
      | cons a l ih => simp only [List.any_cons, List.all_cons, Bool.not_or, Bool.not_not, ih]
    exact this l
  · refine ev_neg h ?_
    rw [decide_eq_false h]
    exact Ev.now _
def wtL (x : S113) : Nat := x.f0.size + x.f1.size + x.f2.size + x.f3.size
def FitS (x : S113) : Prop := x.f0.size ≤ 9223372036854775807 ∧ x.f1.size ≤ 9223372036854775807 ∧ x.f2.size ≤ 9223372036854775807 ∧ x.f3.size ≤ 9223372036854775807
theorem szSlot (a b c d : ByteArray) (o : Bool) (h : a.size ≤ 9223372036854775807 ∧ b.size ≤ 9223372036854775807 ∧ c.size ≤ 9223372036854775807 ∧ d.size ≤ 9223372036854775807) (R : Int) (h0 : 0 ≤ R) (h1 : R ≤ 1000000000000) :
    laws_szSlot.f a b c d o R = some (left R (a.size + b.size + c.size + d.size)) := by
  obtain ⟨ha, hb, hc, hd⟩ := h
  unfold laws_szSlot.f left
  rw [w64 (x := R - (a.size : Int)) (by omega) (by omega)]
  by_cases c1 : R - (a.size : Int) < 0
  · rw [if_pos c1, if_neg (by omega)]
  rw [if_neg c1, w64 (x := R - (a.size : Int) - (b.size : Int)) (by omega) (by omega)]
  by_cases c2 : R - (a.size : Int) - (b.size : Int) < 0
  · rw [if_pos c2, if_neg (by omega)]
  rw [if_neg c2, w64 (x := R - (a.size : Int) - (b.size : Int) - (c.size : Int)) (by omega) (by omega)]
  by_cases c3 : R - (a.size : Int) - (b.size : Int) - (c.size : Int) < 0
  · rw [if_pos c3, if_neg (by omega)]
  rw [if_neg c3, w64 (x := R - (a.size : Int) - (b.size : Int) - (c.size : Int) - (d.size : Int)) (by omega) (by omega)]
  by_cases c4 : R - (a.size : Int) - (b.size : Int) - (c.size : Int) - (d.size : Int) < 0
  · rw [if_pos c4, if_neg (by omega)]
  rw [if_neg c4, if_pos (by omega)]
  refine congrArg some ?_
  omega
theorem szSlots (l : List S113) (hf : l.length ≤ 9223372036854775807 ∧ ∀ x ∈ l, FitS x) (R : Int) (h0 : 0 ≤ R) (h1 : R ≤ 1000000000) : Ev (fun k => laws_szSlotS.f k l R) (left R (l.length + wsum wtL l)) :=
  sz_list wtL l rd_T113 (fun i h => rdL_at l i h) laws_szSlotS.l0 laws_szSlotS.f (fun _ x R => laws_szSlot.f x.f0 x.f1 x.f2 x.f3 x.f4 R) (fun k R i => rfl) (fun k R => rfl)
    (fun x hx R h0 h1 => ev_of_eq (szSlot _ _ _ _ _ (hf.2 x hx) R h0 h1)) hf.1 R h0 h1
def conv (x : S113) : S72 := ⟨x.f0, x.f1, x.f2, x.f3, x.f4⟩
theorem toSlots (l : List S113) (hl : l.length ≤ 2000000) : Ev (fun k => laws_toSlotS.f k l) (l.map conv) := by
  refine Ev.congr (f := fun k => laws_toSlotS.l0 k l (List.replicate l.length z72) 0) (fun k => ?_) (to_list conv z72 l laws_toSlotS.l0 hl (fun k out => ?_) (fun i h out ho r hr => ?_))
  · simp only [laws_toSlotS.f]
    rw [if_pos (by omega), if_pos (by omega)]
    rfl
  · simp only [laws_toSlotS.l0]; rw [if_neg (by omega)]
  · refine Ev.step (f := fun k => laws_toSlotS.l0 k l (out.set i (conv l[i])) ((i + 1 : Nat) : Int)) (fun k => ?_) hr
    simp only [laws_toSlotS.l0, laws_toSlot.f, Option.bind_some]
    rw [if_pos (by omega), if_pos (by omega), if_pos (by omega), rdL_at l i h, w64 (x := (i : Int) + 1) (by omega) (by omega)]
    rfl
theorem eqSlots (l : List S72) (hl : l.length ≤ 2000000) : Ev (fun k => laws_eqSlotS.f k l l) true := by
  refine eq_list l laws_eqSlotS.l0 laws_eqSlotS.f (fun k => ?_) (fun k => ?_) (fun i h hr => ?_)
  · simp only [laws_eqSlotS.l0]; rw [if_neg (by omega)]
  · simp only [laws_eqSlotS.f]; rw [if_pos trivial]
  · refine Ev.step (f := fun k => laws_eqSlotS.l0 k l l ((i + 1 : Nat) : Int)) (fun k => ?_) hr
    simp only [laws_eqSlotS.l0, laws_eqSlot.f]
    rw [if_pos (by omega), if_pos (by omega), if_pos (by omega), if_pos trivial, if_pos trivial, if_pos trivial, if_pos trivial, if_neg (by simp), w64 (x := (i : Int) + 1) (by omega) (by omega)]
    rfl
end Go.Proofs.Ytfajabboibcgpaa.PV
end
section
namespace Go.Proofs.Ytfajabboibcgpaa.PW
open Go.RowKit Go.Proofs.YtfajabboibcgpaaW.PrintWords Go.Proofs.YtfajabboibcgpaaW.PrintLast Go.Proofs.YtfajabboibcgpaaW.PrintMore Go.Proofs.Ytfajabboibcgpaa.PB Go.Proofs.Ytfajabboibcgpaa.PD Go.Proofs.Ytfajabboibcgpaa.PK Go.Proofs.Ytfajabboibcgpaa.PL Go.Proofs.Ytfajabboibcgpaa.PS Go.Proofs.Ytfajabboibcgpaa.PT Go.Proofs.Ytfajabboibcgpaa.PU Go.Proofs.Ytfajabboibcgpaa.PG Go.Proofs.Ytfajabboibcgpaa.PQ Go.Proofs.Ytfajabboibcgpaa.PV Go.Proofs.Ytfajabboibcgpaa.PA
set_option linter.unusedVariables false
end Go.Proofs.Ytfajabboibcgpaa.PW
end
section
namespace Go.Proofs.Ytfajabboibcgpaa.PX
open Go.RowKit Go.Proofs.YtfajabboibcgpaaW.PrintWords Go.Proofs.YtfajabboibcgpaaW.PrintLast Go.Proofs.YtfajabboibcgpaaW.PrintMore Go.Proofs.Ytfajabboibcgpaa.PB Go.Proofs.Ytfajabboibcgpaa.PD Go.Proofs.Ytfajabboibcgpaa.PK Go.Proofs.Ytfajabboibcgpaa.PL Go.Proofs.Ytfajabboibcgpaa.PS Go.Proofs.Ytfajabboibcgpaa.PT Go.Proofs.Ytfajabboibcgpaa.PU Go.Proofs.Ytfajabboibcgpaa.PG Go.Proofs.Ytfajabboibcgpaa.PQ Go.Proofs.Ytfajabboibcgpaa.PW Go.Proofs.Ytfajabboibcgpaa.PA
set_option linter.unusedVariables false
end Go.Proofs.Ytfajabboibcgpaa.PX
end
section
namespace Go.Proofs.Ytfajabboibcgpaa.PY
open Go.RowKit Go.Proofs.YtfajabboibcgpaaW.PrintWords Go.Proofs.YtfajabboibcgpaaW.PrintLast Go.Proofs.YtfajabboibcgpaaW.PrintMore Go.Proofs.Ytfajabboibcgpaa.PB Go.Proofs.Ytfajabboibcgpaa.PD Go.Proofs.Ytfajabboibcgpaa.PK Go.Proofs.Ytfajabboibcgpaa.PL Go.Proofs.Ytfajabboibcgpaa.PS Go.Proofs.Ytfajabboibcgpaa.PT Go.Proofs.Ytfajabboibcgpaa.PU Go.Proofs.Ytfajabboibcgpaa.PG Go.Proofs.Ytfajabboibcgpaa.PQ Go.Proofs.Ytfajabboibcgpaa.PW Go.Proofs.Ytfajabboibcgpaa.PX Go.Proofs.Ytfajabboibcgpaa.PA
set_option linter.unusedVariables false
theorem rdI_at (l : List S145) (i : Nat) (h : i < l.length) : rd_T145 l (i : Int) = l[i] := by
  simp [rd_T145, List.getD_eq_getElem?_getD, List.getElem?_eq_getElem h]
theorem rdL_at (l : List S142) (i : Nat) (h : i < l.length) : rd_T142 l (i : Int) = l[i] := by
  simp [rd_T142, List.getD_eq_getElem?_getD, List.getElem?_eq_getElem h]
end Go.Proofs.Ytfajabboibcgpaa.PY
end
section
namespace Go.Proofs.Ytfajabboibcgpaa.PZ
open Go.RowKit Go.Proofs.YtfajabboibcgpaaW.PrintWords Go.Proofs.YtfajabboibcgpaaW.PrintLast Go.Proofs.YtfajabboibcgpaaW.PrintMore Go.Proofs.Ytfajabboibcgpaa.PB Go.Proofs.Ytfajabboibcgpaa.PD Go.Proofs.Ytfajabboibcgpaa.PK Go.Proofs.Ytfajabboibcgpaa.PL Go.Proofs.Ytfajabboibcgpaa.PS Go.Proofs.Ytfajabboibcgpaa.PT Go.Proofs.Ytfajabboibcgpaa.PU Go.Proofs.Ytfajabboibcgpaa.PG Go.Proofs.Ytfajabboibcgpaa.PQ Go.Proofs.Ytfajabboibcgpaa.PV Go.Proofs.Ytfajabboibcgpaa.PW Go.Proofs.Ytfajabboibcgpaa.PX Go.Proofs.Ytfajabboibcgpaa.PY Go.Proofs.Ytfajabboibcgpaa.PA
set_option linter.unusedVariables false
abbrev slotT (x : S72) : ByteArray := x.f0 ++ x.f2
abbrev textsM (l : List S72) : List ByteArray := l.map slotT
theorem slotB_facts {x : S72} (h : slotB x = true) : 1 ≤ x.f0.size ∧ x.f0.size ≤ 8 ∧ x.f2.size = 4 := by
  unfold slotB slotOk at h
  cases o : x.f4 with
  | true =>
    rw [o, if_pos rfl, Bool.and_eq_true, Bool.and_eq_true] at h
    have h1 := of_decide_eq_true h.1
    have h2 := of_decide_eq_true h.2.1
    exact ⟨by omega, by omega, h2⟩
  | false =>
    rw [o, if_neg (by simp), Bool.and_eq_true] at h
    have h2 := of_decide_eq_true h.2
    unfold threeOk at h
    rw [Bool.and_eq_true] at h
    have h1 := of_decide_eq_true h.1.1
    refine ⟨by omega, by omega, ?_⟩
    rw [h2]; exact dig_size _ _
theorem shelf_len {l : List S72} (h : shelfOk l = true) : l.length ≤ 20 := by
  unfold shelfOk at h
  simp only [Bool.and_eq_true, decide_eq_true_eq] at h
  omega
theorem shelf_mem {l : List S72} (h : shelfOk l = true) : ∀ x ∈ l, slotB x = true := by
  unfold shelfOk at h
  simp only [Bool.and_eq_true] at h
  exact fun x hx => List.all_eq_true.1 h.2 x hx
theorem commits_eq : ∀ k o x n i, impl_commits.l0 k o x n i = spec_l15Texts.l0 k o x n i := by
  intro k
  induction k with
  | zero => intros; rfl
  | succ k ih => intros; simp only [impl_commits.l0, spec_l15Texts.l0, ih]
theorem textsS (l : List S72) (hl : l.length ≤ 2000000) (hs : ∀ x ∈ l, x.f0.size ≤ 1000000000 ∧ x.f2.size ≤ 1000000000) : Ev (fun k => spec_l15Texts.f k l) (textsM l) := by
  have key : ∀ (d i : Nat), i + d = l.length → Ev (fun k => spec_l15Texts.l0 k ((l.take i).map slotT) l (l.length : Int) (i : Int)) (textsM l) := by
    intro d
    induction d with
    | zero =>
      intro i hi
      rw [List.take_of_length_le (by omega)]
      refine Ev.step (f := fun _ => some (textsM l)) (fun k => ?_) (Ev.now _)
      simp only [spec_l15Texts.l0]; rw [if_neg (by omega)]
    | succ d ih =>
      intro i hi
      have hlt : i < l.length := by omega
      have hz := hs _ (List.getElem_mem hlt)
      have e : (l.take (i + 1)).map slotT = (l.take i).map slotT ++ [l[i].f0 ++ l[i].f2] := by
        rw [List.take_succ_eq_append_getElem hlt, List.map_append]; rfl
      have hx := ih (i + 1) (by omega)
      rw [e] at hx
      refine Ev.step (f := fun k => spec_l15Texts.l0 k ((l.take i).map slotT ++ [l[i].f0 ++ l[i].f2]) l (l.length : Int) ((i + 1 : Nat) : Int)) (fun k => ?_) hx
      have hll : ((l.take i).map slotT).length < 8796093022208 := by rw [List.length_map, List.length_take]; omega
      simp only [spec_l15Texts.l0]
      rw [if_pos (by omega), if_pos (by omega), if_pos (by omega), PV.rdI_at l i hlt, if_pos (by omega), if_pos hll, w64 (x := (i : Int) + 1) (by omega) (by omega)]
      rfl
  exact key l.length 0 (by omega)
theorem textsI (l : List S72) (hl : l.length ≤ 2000000) (hs : ∀ x ∈ l, x.f0.size ≤ 1000000000 ∧ x.f2.size ≤ 1000000000) : Ev (fun k => impl_commits.f k l) (textsM l) :=
  Ev.congr (fun k => commits_eq _ _ _ _ _) (textsS l hl hs)
theorem shelf_small {l : List S72} (h : shelfOk l = true) : ∀ x ∈ l, x.f0.size ≤ 1000000000 ∧ x.f2.size ≤ 1000000000 := fun x hx => by
  have := slotB_facts (shelf_mem h x hx)
  exact ⟨by omega, by omega⟩
end Go.Proofs.Ytfajabboibcgpaa.PZ
end
section
namespace Go.Proofs.Ytfajabboibcgpaa.Pure
open Go.RowKit Go.Proofs.YtfajabboibcgpaaW.PrintWords Go.Proofs.YtfajabboibcgpaaW.PrintLast Go.Proofs.YtfajabboibcgpaaW.PrintMore Go.Proofs.Ytfajabboibcgpaa.PB Go.Proofs.Ytfajabboibcgpaa.PD Go.Proofs.Ytfajabboibcgpaa.PL Go.Proofs.Ytfajabboibcgpaa.PT Go.Proofs.Ytfajabboibcgpaa.PG Go.Proofs.Ytfajabboibcgpaa.PV Go.Proofs.Ytfajabboibcgpaa.PZ Go.Proofs.Ytfajabboibcgpaa.PA
set_option linter.unusedVariables false
def Ans {α : Type} (f : Nat → Option (Int × α)) : Prop := ∃ n l', Ev f (n, l') ∧ 0 ≤ n
theorem ans_bind {α β : Type} {g : Nat → Option β} {f : Nat → β → Option (Int × α)} {a : β} (h : Ev g a) (k : Ans (fun n => f n a)) : Ans (fun n => (g n).bind (f n)) := by
  obtain ⟨n, l', hr, h0⟩ := k
  exact ⟨n, l', ev_bind h hr, h0⟩
theorem ans_const {α β : Type} {f : Nat → β → Option (Int × α)} {a : β} (P : β → Prop) (h : P a) (k : ∀ b, P b → Ans (fun n => f n b)) : Ans (fun n => (some a).bind (f n)) := k a h
theorem ans_pos {α : Type} {c : Prop} [Decidable c] {f g : Nat → Option (Int × α)} (hc : c) (h : Ans f) : Ans (fun k => if c then f k else g k) := by
  obtain ⟨n, l', hr, h0⟩ := h
  exact ⟨n, l', ev_pos hc hr, h0⟩
theorem ans_step {α : Type} {S f : Nat → Option (Int × α)} (e : ∀ k, S (k + 1) = f k) (h : Ans f) : Ans S := by
  obtain ⟨n, l', hr, h0⟩ := h
  exact ⟨n, l', Ev.step e hr, h0⟩
theorem markSlots (l : List S72) (hl : l.length ≤ 2000000) : Ans (fun k => laws_markSlotS.f k l 1) := by
  have key : ∀ (d i a : Nat) (x : List S72), x.length = l.length → i + d = x.length → a ≤ 5 * i + 1 → Ans (fun k => laws_markSlotS.l0 k x (a : Int) (i : Int)) := by
    intro d
    induction d with
    | zero =>
      intro i a x hx hi ha
      refine ⟨(a : Int), x, Ev.step (f := fun k => some ((a : Int), x)) (fun k => ?_) (Ev.now _), by omega⟩
      simp only [laws_markSlotS.l0]; rw [if_neg (by omega)]
    | succ d ih =>
      intro i a x hx hi ha
      have b0 : a ≤ 1000000000000000000 := by omega
      have b1 : a + 1 ≤ 1000000000000000000 := by omega
      have b2 : a + 2 ≤ 1000000000000000000 := by omega
      have b3 : a + 3 ≤ 1000000000000000000 := by omega
      have i0 : 0 ≤ (i : Int) := by omega
      have i1 : (i : Int) < (x.length : Int) := by omega
      have i2 : i + 1 + d = l.length := by omega
      have i3 : a + 5 ≤ 5 * (i + 1) + 1 := by omega
      have w1 : wrap64 ((a : Int) + 1) = ((a + 1 : Nat) : Int) := by rw [w64 (by omega) (by omega)]; rfl
      have w2 : wrap64 (((a + 1 : Nat) : Int) + 1) = ((a + 2 : Nat) : Int) := by rw [w64 (by omega) (by omega)]; rfl
      have w3 : wrap64 (((a + 2 : Nat) : Int) + 1) = ((a + 3 : Nat) : Int) := by rw [w64 (by omega) (by omega)]; rfl
      have w4 : wrap64 (((a + 3 : Nat) : Int) + 1) = ((a + 4 : Nat) : Int) := by rw [w64 (by omega) (by omega)]; rfl
      have w5 : wrap64 (((a + 4 : Nat) : Int) + 1) = ((a + 5 : Nat) : Int) := by rw [w64 (by omega) (by omega)]; rfl
      have wi : wrap64 ((i : Int) + 1) = ((i + 1 : Nat) : Int) := by rw [w64 (by omega) (by omega)]; rfl
      have hset : ∀ (y : List S72) (v : S72), y.length = l.length → (y.set i v).length = l.length := fun y v hy => by rw [List.length_set]; exact hy
      refine ans_step (f := fun k => _) (fun k => by simp only [laws_markSlotS.l0]; rw [if_pos i1, w1, w2, w3, w4, w5, wi]) ?_
      clear w1 w2 w3 w4 w5 wi
      refine ans_bind (markT a b0) (ans_pos i0 (ans_const (fun y => y.length = l.length) (hset _ _ hx) fun y1 h1 => ?_))
      refine ans_bind (markT (a + 1) b1) (ans_const (fun y => y.length = l.length) (hset _ _ h1) fun y2 h2 => ?_)
      refine ans_bind (markT (a + 2) b2) (ans_const (fun y => y.length = l.length) (hset _ _ h2) fun y3 h3 => ?_)
      refine ans_bind (markT (a + 3) b3) (ans_const (fun y => y.length = l.length) (hset _ _ h3) fun y4 h4 => ?_)
      have h5 := fun v => hset y4 v h4
      exact ih (i + 1) (a + 5) _ (h5 _) (i2.trans (h5 _).symm) i3
  exact key l.length 0 1 l rfl (by omega) (by omega)
theorem showSlot_two (l : List S72) (k0 : Int) (hl : l.length ≤ 2000000) : ∃ a b c d o t f, Ev (fun k => spec_ShowSlot.f k l k0) (a, b, c, d, o, t, f) ∧ Ev (fun k => impl_ShowSlot.f k l k0) (a, b, c, d, o, t, f) ∧ t.length ≤ 20 := by
  have hS : Ev (fun k => spec_l15There.f k l k0) (shelfOk l && decide (0 ≤ k0 ∧ k0 < (l.length : Int))) := by
    refine ev_bind (goodShelfS l hl) ?_
    cases hs : shelfOk l with
    | false => exact ev_neg (by simp) (Ev.now _)
    | true =>
      refine ev_pos rfl ?_
      rw [Bool.true_and]
      by_cases h : k0 ≥ 0
      · refine ev_pos h (ev_eq (Ev.now _) ?_)
        simp [show 0 ≤ k0 from h]
      · refine ev_neg h (ev_eq (Ev.now _) ?_)
        simp [show ¬ 0 ≤ k0 from h]
  have hI : Ev (fun k => impl_isOn.f k l k0) (shelfOk l && decide (0 ≤ k0 ∧ k0 < (l.length : Int))) := by
    refine ev_bind (goodShelfI l hl) ?_
    cases hs : shelfOk l with
    | false => exact ev_neg (by simp) (Ev.now _)
    | true =>
      refine ev_pos rfl ?_
      rw [Bool.true_and, w64 (x := (l.length : Int) - 1) (by omega) (by omega)]
      refine ev_const (inI _ _ _) (ev_eq (Ev.now _) ?_)
      by_cases h : 0 ≤ k0 ∧ k0 < (l.length : Int)
      · rw [decide_eq_true h, decide_eq_true ⟨h.1, by omega⟩]
      · rw [decide_eq_false h, decide_eq_false (fun h2 => h ⟨h2.1, by omega⟩)]
  cases hb : shelfOk l && decide (0 ≤ k0 ∧ k0 < (l.length : Int)) with
  | true =>
    rw [hb] at hS hI
    simp only [Bool.and_eq_true, decide_eq_true_eq] at hb
    have hn := shelf_len hb.1
    refine ⟨_, _, _, _, _, textsM l, true, ev_bind hS (ev_pos rfl (ev_pos hb.2.1 (ev_pos hb.2.2 (ev_bind (textsS l hl (shelf_small hb.1)) (Ev.now _))))), ev_bind hI (ev_pos rfl (ev_pos hb.2.1 (ev_pos hb.2.2 (ev_bind (textsI l hl (shelf_small hb.1)) (Ev.now _))))), by rw [List.length_map]; exact hn⟩
  | false =>
    rw [hb] at hS hI
    exact ⟨⟨#[]⟩, ⟨#[]⟩, ⟨#[]⟩, ⟨#[]⟩, false, [], false, ev_bind hS (ev_neg (by simp) (Ev.now _)), ev_bind hI (ev_neg (by simp) (Ev.now _)), by simp⟩
theorem eqSlot_yes (a b c d : ByteArray) (o : Bool) : laws_eqSlot.f a b c d o a b c d o = some true := by
  unfold laws_eqSlot.f
  rw [if_pos rfl, if_pos rfl, if_pos rfl, if_pos rfl, if_neg (by simp)]
theorem FnExactShowSlot (l : List S113) (k0 : Int) (hf : l.length ≤ maxLen ∧ ∀ x ∈ l, x.f0.size ≤ maxLen ∧ x.f1.size ≤ maxLen ∧ x.f2.size ≤ maxLen ∧ x.f3.size ≤ maxLen ∧ True) (hk : (Lit.int .i64 k0).wf = true) : ∃ k, laws_FnExactShowSlot.f k l k0 = some true := by
  refine Ev.rounds ?_
  unfold laws_FnExactShowSlot.f
  have hz := szSlots l ⟨hf.1, fun x hx => let h := hf.2 x hx; ⟨h.1, h.2.1, h.2.2.1, h.2.2.2.1⟩⟩ 1048576 (by omega) (by omega)
  by_cases ht : ((l.length + wsum wtL l : Nat) : Int) ≤ 1048576
  · rw [left_yes ht] at hz
    have hl : l.length ≤ 2000000 := by omega
    have hm : (l.map conv).length ≤ 2000000 := by rw [List.length_map]; exact hl
    obtain ⟨a, b, c, d, o, t, f, hS, hI, hn⟩ := showSlot_two (l.map conv) k0 hm
    obtain ⟨n, l', hmk, hn0⟩ := markSlots (l.map conv) (by rw [List.length_map]; omega)
    refine ev_bind hz (ev_neg (by omega) (ev_bind (toSlots l hl) (ev_bind hS (ev_bind (toSlots l hl) (ev_bind hI ?_)))))
    refine ev_const (eqSlot_yes _ _ _ _ _) (ev_pos rfl (ev_bind (eqS_yes t (by omega)) (ev_pos rfl ?_)))
    simp only [bne_self_eq_false]
    refine Ev.step (f := fun k => _) (fun k => by simp only [laws_FnExactShowSlot.j0]; rfl) ?_
    refine ev_neg (by simp) (ev_bind (toSlots l hl) (ev_bind (eqSlots _ hm) (ev_pos rfl (ev_bind hmk (ev_neg (by omega) (ev_const (eqSlot_yes _ _ _ _ _) (ev_pos rfl (ev_bind (eqS_yes t (by omega)) (ev_pos rfl ?_)))))))))
    simp only [bne_self_eq_false]
    refine Ev.step (f := fun k => _) (fun k => by simp only [laws_FnExactShowSlot.j1]; rfl) ?_
    have e1 : ((1 : Nat) : Int) = 1 := rfl
    have hmt := markS t 1 (by omega) (by omega)
    have hht := heldS t.length 1 (by omega) (by omega)
    rw [e1] at hmt hht
    refine ev_neg (by simp) (ev_bind hmt (ev_bind hht (ev_neg (by omega) (ev_pos rfl (ev_bind (toSlots l hl) (ev_bind hI (ev_const (eqSlot_yes _ _ _ _ _) (ev_pos rfl (ev_bind (eqS_yes t (by omega)) (ev_pos rfl ?_))))))))))
    simp only [bne_self_eq_false]
    refine Ev.step (f := fun k => _) (fun k => by simp only [laws_FnExactShowSlot.j2]; rfl) ?_
    exact ev_neg (by simp) (ev_bind hht (ev_neg (by omega) (ev_pos rfl (Ev.now _))))
  · rw [left_no ht] at hz
    exact ev_bind hz (ev_pos (by omega) (Ev.now _))
end Go.Proofs.Ytfajabboibcgpaa.Pure
end
section
namespace Go.Proofs.Ytfajabboibcgpaa.RO
open Go.RowKit Go.Proofs.YtfajabboibcgpaaW.PrintWords Go.ChangeShapes Go.WideShapes
set_option linter.unusedVariables false
def Opn (P : Program) (W : World) (e : TypeId) {α : Type} (d : Kd α) (G : α → Prop) : Prop :=
  ∀ {H : Type} {enc : TypeId × Value → H} {base : Nat} {spare : Nat → Bool} {held : Bool} {n : Nat} {cs : List Value} {x : DataW H × List MemPlace},
    DataW.trod enc P W base spare held n e cs = some x → ∃ y : α, d.K W y cs ∧ G y
section
variable {P : Program} {W : World} {e t : TypeId}
theorem op_string (he : P.underlying e = some .string) : Opn P W e Kd.string (fun s => s.size ≤ maxLen) := by
  intro H enc base spare held n cs x h
  obtain ⟨s, rfl, _, hs⟩ := DataW.trod_string he h
  exact ⟨s, rfl, hs⟩
theorem op_bool (he : P.underlying e = some .bool) : Opn P W e Kd.bool (fun _ => True) := by
  intro H enc base spare held n cs x h
  obtain ⟨b, rfl, _⟩ := DataW.trod_bool he h
  exact ⟨b, rfl, trivial⟩
theorem pick {α : Type} {p : Nat → α → Prop} : ∀ (n : Nat), (∀ i, i < n → ∃ y, p i y) → ∃ ys : List α, ys.length = n ∧ ∀ i y, ys[i]? = some y → p i y := by
  intro n
  induction n with
  | zero => intro _; exact ⟨[], rfl, fun i y h => by simp at h⟩
  | succ n ih =>
    intro h
    obtain ⟨ys, hl, hp⟩ := ih (fun i hi => h i (by omega))
    obtain ⟨y, hy⟩ := h n (by omega)
    refine ⟨ys ++ [y], by simp [hl], fun i z hz => ?_⟩
    by_cases hi : i < n
    · rw [List.getElem?_append_left (by omega)] at hz
      exact hp i z hz
    · rw [List.getElem?_append_right (by omega)] at hz
      have : i = n := by
        rcases Nat.lt_or_ge (i - ys.length) 1 with h1 | h1
        · omega
        · rw [List.getElem?_eq_none (by simpa using h1)] at hz; cases hz
      subst this
      rw [hl, Nat.sub_self] at hz
      simp at hz
      subst hz
      exact hy
theorem op_slice {α : Type} {d : Kd α} {G : α → Prop} (ht : P.underlying t = some (.slice e)) (hc : P.cellsOf e = d.sz) (ho : Opn P W e d G) : Opn P W t (Kd.slice e d) (fun l => l.length ≤ maxLen ∧ ∀ x ∈ l, G x) := by
  intro H enc base spare held n cs x h
  rcases Deep.open_slice ht h with ⟨rfl, _⟩ | ⟨a, len, cap, m, n', D, Pl, rfl, _, hl, hm, hmm, _, hx⟩
  · exact ⟨[], ⟨none, 0, rfl, Nat.le_refl _, Kd.C_nil _ _⟩, by simp [maxLen], fun x hx => by cases hx⟩
  · obtain ⟨ys, hyl, hy⟩ := pick (p := fun i y => ∃ c, c.length = d.sz ∧ d.K W y c ∧ G y ∧ ∀ j u, c[j]? = some u → W.cell? (a.add (i * d.sz + j)) = some u) len (fun i hi => by
      have him : i < m := by rw [hmm]; split <;> omega
      obtain ⟨c, h1, h2⟩ := hx i him
      obtain ⟨y, hk, hg⟩ := ho h2
      obtain ⟨_, hcl, hcell⟩ := World.cells?_some h1
      rw [hc] at hcl hcell
      refine ⟨y, c, hcl, hk, hg, fun j u hj => ?_⟩
      have hj' : j < d.sz := by rw [← hcl]; exact (List.getElem?_eq_some_iff.1 hj).1
      have := hcell j hj'
      rw [hj] at this
      rw [← this]
      congr 1
      have e0 : ∀ p q : Nat, (a.add p).add q = a.add (p + q) := by
        intro p q
        obtain ⟨b, o, s⟩ := a
        unfold Addr.add
        by_cases hp : p = 0
        · subst hp; simp
        · by_cases hq : q = 0
          · subst hq; simp [hp]
          · simp [hp, hq]; omega
      rw [e0])
    refine ⟨ys, ⟨some a, cap, by rw [hyl], by omega, rfl, by rw [hyl]; unfold maxLen at hm; omega, fun h0 => ⟨a, rfl, fun j p hj => ?_⟩⟩, by rw [hyl]; omega, fun x hx => ?_⟩
    · obtain ⟨c, h1, h2, _, h3⟩ := hy j p hj
      exact ⟨c, h1, h2, h3⟩
    · obtain ⟨i, hi⟩ := List.getElem?_of_mem hx
      obtain ⟨c, _, _, h, _⟩ := hy i x hi
      exact h
def OpAt (P : Program) (W : World) (fs : List (TypeId × Nat)) (off : Nat) {α : Type} (d : Kd α) (G : α → Prop) : Prop :=
  ∀ {H : Type} {enc : TypeId × Value → H} {base : Nat} {spare : Nat → Bool} {held : Bool} {n : Nat} {cs : List Value}, cs.length = off + d.sz →
    (∀ f ∈ fs, ∃ x, DataW.trod enc P W base spare held n f.1 ((cs.drop f.2).take (P.cellsOf f.1)) = some x) → ∃ y : α, d.K W y (cs.drop off) ∧ G y
theorem opAt_one {off : Nat} {α : Type} {d : Kd α} {G : α → Prop} (hc : P.cellsOf e = d.sz) (h : Opn P W e d G) : OpAt P W [(e, off)] off d G := by
  intro H enc base spare held n cs hl hf
  obtain ⟨x, hx⟩ := hf (e, off) (List.mem_singleton.2 rfl)
  dsimp only at hx
  rw [hc, List.take_of_length_le (by rw [List.length_drop]; omega)] at hx
  exact h hx
theorem opAt_cons {off : Nat} {fs : List (TypeId × Nat)} {α β : Type} {d1 : Kd α} {d2 : Kd β} {G1 : α → Prop} {G2 : β → Prop} (hc : P.cellsOf e = d1.sz) (h1 : Opn P W e d1 G1) (h2 : OpAt P W fs (off + d1.sz) d2 G2) :
    OpAt P W ((e, off) :: fs) off (Kd.pair d1 d2) (fun y => G1 y.1 ∧ G2 y.2) := by
  intro H enc base spare held n cs hl hf
  have hl' : cs.length = off + (d1.sz + d2.sz) := hl
  obtain ⟨x, hx⟩ := hf (e, off) List.mem_cons_self
  dsimp only at hx
  rw [hc] at hx
  obtain ⟨y1, hk1, hg1⟩ := h1 hx
  obtain ⟨y2, hk2, hg2⟩ := h2 (cs := cs) (by omega) (fun f hf' => hf f (List.mem_cons_of_mem _ hf'))
  refine ⟨(y1, y2), ⟨(cs.drop off).take d1.sz, cs.drop (off + d1.sz), ?_, hk1, hk2⟩, hg1, hg2⟩
  rw [← List.drop_drop, List.take_append_drop]
theorem op_struct {fs : Array Field} {L : List (TypeId × Nat)} {α β : Type} {d : Kd α} {f : β → α} {g : α → β} {G : α → Prop} (ht : P.underlying t = some (.struct fs)) (hL : fs.toList.map (fun f => (f.type, f.offset)) = L) (hc : P.cellsOf t = d.sz) (hfg : ∀ y, f (g y) = y)
    (h : OpAt P W L 0 d G) : Opn P W t (Kd.iso d f) (fun x => G (f x)) := by
  intro H enc base spare held n cs x hx
  obtain ⟨xs, m, _, _, hl, hxl, hf⟩ := DataW.trod_struct ht hx
  obtain ⟨y, hk, hg⟩ := h (cs := cs) (n := m) (enc := enc) (base := base) (spare := spare) (held := held) (by rw [hl, hc]; omega) (fun q hq => by
    rw [← hL] at hq
    obtain ⟨fd, hfd, rfl⟩ := List.mem_map.1 hq
    obtain ⟨i, hi⟩ := List.getElem?_of_mem hfd
    rw [Array.getElem?_toList] at hi
    have hlt : i < xs.length := by
      have := (Array.getElem?_eq_some_iff.1 hi).1
      omega
    exact ⟨xs[i], by rw [hf i fd hi]; exact List.getElem?_eq_getElem hlt⟩)
  rw [List.drop_zero] at hk
  refine ⟨g y, ?_, ?_⟩
  · show d.K W (f (g y)) cs
    rw [hfg]; exact hk
  · show G (f (g y))
    rw [hfg]; exact hg
end
end Go.Proofs.Ytfajabboibcgpaa.RO
end
