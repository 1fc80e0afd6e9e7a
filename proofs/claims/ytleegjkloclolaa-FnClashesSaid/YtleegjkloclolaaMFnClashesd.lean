/- For the law FnClashes: what it needs of the words, of the printed functions and of the plain laws, in few texts (laid by merge.py of this workplace). -/
import Derived.Test.YtleegjkloclolaaMFnClashesc
section
namespace Go.Proofs.Ytleegjkloclolaa.PQ
open Go.RowKit Go.Proofs.YtleegjkloclolaaW.PrintWords Go.Proofs.YtleegjkloclolaaW.PrintLast Go.Proofs.YtleegjkloclolaaW.PrintMore Go.Proofs.Ytleegjkloclolaa.PB Go.Proofs.Ytleegjkloclolaa.PD Go.Proofs.Ytleegjkloclolaa.PK Go.Proofs.Ytleegjkloclolaa.PL Go.Proofs.Ytleegjkloclolaa.PS Go.Proofs.Ytleegjkloclolaa.PT Go.Proofs.Ytleegjkloclolaa.PU Go.Proofs.Ytleegjkloclolaa.PG Go.Proofs.Ytleegjkloclolaa.PA
set_option linter.unusedVariables false
def rowFrom : ByteArray → List ByteArray → ByteArray
  | acc, [] => acc
  | acc, s :: l => rowFrom (acc ++ (one (s.size : Int) ++ s)) l
def rowM (l : List ByteArray) : ByteArray := rowFrom ⟨#[]⟩ l
theorem rowS (l : List ByteArray) (hl : total l ≤ 1000000000) : Ev (fun k => spec_l1Row.f k l) (rowM l) := by
  have hlen : l.length ≤ 1000000000 := by unfold total at hl; omega
  have key : ∀ (d i : Nat) (acc : ByteArray), i + d = l.length → acc.size + total (l.drop i) ≤ 2000000000 → Ev (fun k => spec_l1Row.l0 k acc l (l.length : Int) (i : Int)) (rowFrom acc (l.drop i)) := by
    intro d
    induction d with
    | zero =>
      intro i acc hi _
      rw [List.drop_eq_nil_of_le (by omega)]
      refine Ev.step (f := fun _ => some acc) (fun k => ?_) (Ev.now _)
      simp only [spec_l1Row.l0]; rw [if_neg (by omega)]
    | succ d ih =>
      intro i acc hi ha
      have hlt : i < l.length := by omega
      rw [List.drop_eq_getElem_cons hlt] at ha ⊢
      have e : total (l[i] :: l.drop (i + 1)) = 1 + l[i].size + total (l.drop (i + 1)) := by simp only [total, szL, List.length_cons]; omega
      rw [e] at ha
      refine Ev.step (f := fun k => spec_l1Row.l0 k (acc ++ (one (l[i].size : Int) ++ l[i])) l (l.length : Int) ((i + 1 : Nat) : Int)) (fun k => ?_) ?_
      · simp only [spec_l1Row.l0]
        rw [if_pos (by omega), if_pos (by omega), if_pos (by omega), rdOf_at _ _ _ hlt, w64 (x := (i : Int) + 1) (by omega) (by omega)]
        have e1 : (strOfNums [(l[i].size : Int) % 256]).size = 1 := by rw [strOfNums_size]; rfl
        simp only [Option.bind_some]
        rw [if_pos (by omega), if_pos (by rw [app_size]; omega)]
        rfl
      · exact ih (i + 1) _ (by omega) (by rw [app_size, app_size, one_size]; omega)
  exact key l.length 0 ⟨#[]⟩ (by omega) (by rw [List.drop_zero]; show 0 + total l ≤ _; omega)
theorem kindI (c : Int) : impl_isKind.f c = some (decide (97 ≤ c ∧ c ≤ 122)) := by
  unfold impl_isKind.f
  by_cases h : c ≥ 97
  · rw [if_pos h]; simp [show 97 ≤ c from h]
  · rw [if_neg h]; simp [show ¬ 97 ≤ c from h]
def digestOfM (kind : Int) (s : ByteArray) : ByteArray × Bool := if (97 ≤ kind ∧ kind ≤ 122) ∧ s.size ≤ 600 then (dig kind s, true) else (⟨#[]⟩, false)
theorem digestOfI (kind : Int) (s : ByteArray) : Ev (fun k => impl_DigestOf.f k kind s) (digestOfM kind s) := by
  unfold digestOfM
  by_cases h1 : 97 ≤ kind ∧ kind ≤ 122
  · by_cases h2 : s.size ≤ 600
    · rw [if_pos ⟨h1, h2⟩]
      exact ev_const (kindI kind) (ev_pos (decide_eq_true h1) (ev_neg (by omega) (ev_bind (digI kind h1 s (by omega)) (Ev.now _))))
    · rw [if_neg (fun h => h2 h.2)]
      exact ev_const (kindI kind) (ev_pos (decide_eq_true h1) (ev_pos (by omega) (Ev.now _)))
  · rw [if_neg (fun h => h1 h.1)]
    exact ev_const (kindI kind) (ev_neg (by simp [h1]) (Ev.now _))
def small (l : List ByteArray) : Bool := l.all fun s => decide (s.size ≤ 100)
def listDigestM (kind : Int) (l : List ByteArray) : ByteArray × Bool := if l.length ≤ 20 then (if small l = true then digestOfM kind (rowM l) else (⟨#[]⟩, false)) else (⟨#[]⟩, false)
theorem total_small (l : List ByteArray) (h : small l = true) : total l ≤ 101 * l.length := by
  induction l with
  | nil => simp [total, szL]
  | cons s l ih =>
    simp only [small, List.all_cons, Bool.and_eq_true, decide_eq_true_eq] at h
    have := ih h.2
    simp only [total, szL, List.length_cons] at this ⊢
    omega
theorem listDigestI (kind : Int) (l : List ByteArray) : Ev (fun k => impl_ListDigest.f k kind l) (listDigestM kind l) := by
  unfold listDigestM impl_ListDigest.f
  by_cases hl : l.length ≤ 20
  · rw [if_pos hl]
    refine ev_neg (by omega) ?_
    have key : ∀ (d i : Nat) (acc : ByteArray), i + d = l.length → acc.size ≤ 101 * i → Ev (fun k => impl_ListDigest.l0 k kind acc l (l.length : Int) (i : Int)) (if small (l.drop i) = true then digestOfM kind (rowFrom acc (l.drop i)) else (⟨#[]⟩, false)) := by
      intro d
      induction d with
      | zero =>
        intro i acc hi _
        rw [List.drop_eq_nil_of_le (by omega), show small [] = true from rfl, if_pos rfl]
        refine Ev.step (f := fun k => (impl_DigestOf.f k kind acc).bind fun b => some (b.1, b.2)) (fun k => ?_) (ev_bind (digestOfI kind acc) (Ev.now _))
        simp only [impl_ListDigest.l0]; rw [if_neg (by omega)]
      | succ d ih =>
        intro i acc hi ha
        have hlt : i < l.length := by omega
        rw [List.drop_eq_getElem_cons hlt]
        by_cases hs : l[i].size ≤ 100
        · have e0 : small (l[i] :: l.drop (i + 1)) = small (l.drop (i + 1)) := by simp only [small, List.all_cons, decide_eq_true hs, Bool.true_and]
          rw [e0]
          refine Ev.step (f := fun k => impl_ListDigest.l0 k kind (acc ++ (one (l[i].size : Int) ++ l[i])) l (l.length : Int) ((i + 1 : Nat) : Int)) (fun k => ?_) ?_
          · simp only [impl_ListDigest.l0]
            rw [if_pos (by omega), if_pos (by omega), if_pos (by omega), rdOf_at _ _ _ hlt, if_neg (by omega), oneI, w64 (x := (i : Int) + 1) (by omega) (by omega)]
            simp only [Option.bind_some]
            rw [if_pos (by rw [one_size]; omega), if_pos (by rw [app_size, one_size]; omega)]
            rfl
          · exact ih (i + 1) _ (by omega) (by rw [app_size, app_size, one_size]; omega)
        · have e0 : small (l[i] :: l.drop (i + 1)) = false := by simp only [small, List.all_cons, decide_eq_false hs, Bool.false_and]
          rw [e0, if_neg (by simp)]
          refine Ev.step (f := fun _ => some (⟨#[]⟩, false)) (fun k => ?_) (Ev.now _)
          simp only [impl_ListDigest.l0]
          rw [if_pos (by omega), if_pos (by omega), if_pos (by omega), rdOf_at _ _ _ hlt, if_pos (by omega)]
    have := key l.length 0 ⟨#[]⟩ (by omega) (by simp [ByteArray.size])
    rw [List.drop_zero] at this
    exact this
  · rw [if_neg hl]
    exact ev_pos (by omega) (Ev.now _)
end Go.Proofs.Ytleegjkloclolaa.PQ
end
section
namespace Go.Proofs.Ytleegjkloclolaa.PV
open Go.RowKit Go.Proofs.YtleegjkloclolaaW.PrintWords Go.Proofs.YtleegjkloclolaaW.PrintLast Go.Proofs.YtleegjkloclolaaW.PrintMore Go.Proofs.Ytleegjkloclolaa.PB Go.Proofs.Ytleegjkloclolaa.PD Go.Proofs.Ytleegjkloclolaa.PK Go.Proofs.Ytleegjkloclolaa.PL Go.Proofs.Ytleegjkloclolaa.PS Go.Proofs.Ytleegjkloclolaa.PT Go.Proofs.Ytleegjkloclolaa.PU Go.Proofs.Ytleegjkloclolaa.PG Go.Proofs.Ytleegjkloclolaa.PQ Go.Proofs.Ytleegjkloclolaa.PA
set_option linter.unusedVariables false
end Go.Proofs.Ytleegjkloclolaa.PV
end
section
namespace Go.Proofs.Ytleegjkloclolaa.PW
open Go.RowKit Go.Proofs.YtleegjkloclolaaW.PrintWords Go.Proofs.YtleegjkloclolaaW.PrintLast Go.Proofs.YtleegjkloclolaaW.PrintMore Go.Proofs.Ytleegjkloclolaa.PB Go.Proofs.Ytleegjkloclolaa.PD Go.Proofs.Ytleegjkloclolaa.PK Go.Proofs.Ytleegjkloclolaa.PL Go.Proofs.Ytleegjkloclolaa.PS Go.Proofs.Ytleegjkloclolaa.PT Go.Proofs.Ytleegjkloclolaa.PU Go.Proofs.Ytleegjkloclolaa.PG Go.Proofs.Ytleegjkloclolaa.PQ Go.Proofs.Ytleegjkloclolaa.PV Go.Proofs.Ytleegjkloclolaa.PA
set_option linter.unusedVariables false
theorem loop_yes {β : Type} (n : Nat) (S : Nat → Nat → Option β) (Q : Nat → Prop) (b : β) (hround : ∀ r i, i < n → Q i → Ev (S (i + 1)) r → Ev (S i) r) (hend : Ev (S n) b) (hq : ∀ i, i < n → Q i) : Ev (S 0) b :=
  loop_up n S hend (fun i hi h => hround b i hi (hq i hi) h)
theorem loop_no {β : Type} (n : Nat) (S : Nat → Nat → Option β) (Q : Nat → Prop) (no : β) (hround : ∀ r i, i < n → Q i → Ev (S (i + 1)) r → Ev (S i) r) (hno : ∀ i, i < n → ¬ Q i → Ev (S i) no) (hq : ¬ ∀ i, i < n → Q i) : Ev (S 0) no := by
  refine Classical.byContradiction fun hc => hq ?_
  have key : ∀ i, i ≤ n → (¬ Ev (S i) no) ∧ ∀ j, j < i → Q j := by
    intro i
    induction i with
    | zero => intro _; exact ⟨hc, fun j hj => absurd hj (Nat.not_lt_zero j)⟩
    | succ i ih =>
      intro hi
      obtain ⟨h1, h2⟩ := ih (by omega)
      have hQ : Q i := Classical.byContradiction fun h => h1 (hno i (by omega) h)
      refine ⟨fun h => h1 (hround no i (by omega) hQ h), fun j hj => ?_⟩
      by_cases e : j = i
      · subst e; exact hQ
      · exact h2 j (by omega)
  exact (key n (Nat.le_refl n)).2
theorem all_at (l : List ByteArray) (p : ByteArray → Bool) : l.all p = true ↔ ∀ i, i < l.length → p (rdOf ByteArray.empty l (i : Int)) = true := by
  rw [List.all_eq_true]
  constructor
  · intro h i hi
    rw [rdOf_at _ _ _ hi]
    exact h _ (List.getElem_mem hi)
  · intro h x hx
    obtain ⟨i, hi, e⟩ := List.getElem_of_mem hx
    have := h i hi
    rw [rdOf_at _ _ _ hi, e] at this
    exact this
abbrev tx (l : List ByteArray) (i : Nat) : ByteArray := rdOf ByteArray.empty l (i : Int)
end Go.Proofs.Ytleegjkloclolaa.PW
end
section
namespace Go.Proofs.Ytleegjkloclolaa.Pure
open Go.RowKit Go.Proofs.YtleegjkloclolaaW.PrintWords Go.Proofs.YtleegjkloclolaaW.PrintLast Go.Proofs.YtleegjkloclolaaW.PrintMore Go.Proofs.Ytleegjkloclolaa.PB Go.Proofs.Ytleegjkloclolaa.PD Go.Proofs.Ytleegjkloclolaa.PK Go.Proofs.Ytleegjkloclolaa.PL Go.Proofs.Ytleegjkloclolaa.PC Go.Proofs.Ytleegjkloclolaa.PQ Go.Proofs.Ytleegjkloclolaa.PW Go.Proofs.Ytleegjkloclolaa.PA
set_option linter.unusedVariables false
theorem ev_now_of {α : Type} {o : Option α} {r : α} (h : o = some r) : Ev (fun _ => o) r := ev_of_eq h
theorem kindS (c : Int) : spec_l1Kind.f c = some (decide (97 ≤ c ∧ c ≤ 122)) := by
  unfold spec_l1Kind.f
  by_cases h : c ≥ 97
  · rw [if_pos h]; simp [show 97 ≤ c from h]
  · rw [if_neg h]; simp [show ¬ 97 ≤ c from h]
theorem digestOfS (kind : Int) (s : ByteArray) : Ev (fun k => spec_DigestOf.f k kind s) (digestOfM kind s) := by
  unfold digestOfM
  by_cases h1 : 97 ≤ kind ∧ kind ≤ 122
  · by_cases h2 : s.size ≤ 600
    · rw [if_pos ⟨h1, h2⟩]
      exact ev_const (kindS kind) (ev_pos (decide_eq_true h1) (ev_neg (by omega) (ev_bind (digS kind h1 s (by omega)) (Ev.now _))))
    · rw [if_neg (fun h => h2 h.2)]
      exact ev_const (kindS kind) (ev_pos (decide_eq_true h1) (ev_pos (by omega) (Ev.now _)))
  · rw [if_neg (fun h => h1 h.1)]
    exact ev_const (kindS kind) (ev_neg (by simp [h1]) (Ev.now _))
theorem listDigestS (kind : Int) (l : List ByteArray) (hl : l.length ≤ 2000000) : Ev (fun k => spec_ListDigest.f k kind l) (listDigestM kind l) := by
  have round : ∀ (r : ByteArray × Bool) i, i < l.length → (tx l i).size ≤ 100 → Ev (fun k => spec_ListDigest.l0 k kind l l (l.length : Int) ((i + 1 : Nat) : Int)) r → Ev (fun k => spec_ListDigest.l0 k kind l l (l.length : Int) (i : Int)) r := by
    intro r i hi hq h
    have hq' : (rdOf ByteArray.empty l (i : Int)).size ≤ 100 := hq
    refine Ev.step (f := fun k => spec_ListDigest.l0 k kind l l (l.length : Int) ((i + 1 : Nat) : Int)) (fun k => ?_) h
    simp only [spec_ListDigest.l0]
    rw [if_pos (by omega), if_pos (by omega), if_pos (by omega), if_neg (by omega), w64 (x := (i : Int) + 1) (by omega) (by omega)]
    rfl
  have no : Ev (fun k => spec_ListDigest.j1 k kind l true) (⟨#[]⟩, false) := Ev.step (f := fun _ => some (⟨#[]⟩, false)) (fun k => by simp only [spec_ListDigest.j1]; rw [if_pos trivial]) (Ev.now _)
  by_cases hA : ∀ i, i < l.length → (tx l i).size ≤ 100
  · have hsm : small l = true := (all_at l _).2 (fun i hi => decide_eq_true (hA i hi))
    refine loop_yes l.length (fun i k => spec_ListDigest.l0 k kind l l (l.length : Int) (i : Int)) _ _ round ?_ hA
    refine Ev.step (f := fun k => (spec_l1Kind.f kind).bind fun t619 => (if t619 = true then (if (l.length : Int) > 20 then (spec_ListDigest.j1 k kind l true) else ((spec_l1Row.f k l).bind fun t620 => (spec_ListDigest.j1 k kind l (decide ((t620.size : Int) > 600))))) else (spec_ListDigest.j1 k kind l true))) (fun k => by simp only [spec_ListDigest.l0]; rw [if_neg (by omega)]) ?_
    refine ev_const (kindS kind) ?_
    unfold listDigestM digestOfM
    by_cases h1 : l.length ≤ 20
    · rw [if_pos h1, if_pos hsm]
      have ht := total_small l hsm
      by_cases h2 : 97 ≤ kind ∧ kind ≤ 122
      · refine ev_pos (decide_eq_true h2) (ev_neg (by omega) (ev_bind (rowS l (by omega)) ?_))
        by_cases h3 : (rowM l).size ≤ 600
        · rw [decide_eq_false (by omega)]
          refine ev_eq (Ev.step (f := fun k => (spec_l1Row.f k l).bind fun t621 => ((spec_l1Digest.f k kind t621).bind fun t622 => (some (t622, true)))) (fun k => by simp only [spec_ListDigest.j1]; rw [if_neg (by simp)]) ?_) (if_pos ⟨h2, h3⟩).symm
          exact ev_bind (rowS l (by omega)) (ev_bind (digS kind h2 _ (by omega)) (Ev.now _))
        · rw [decide_eq_true (by omega)]
          exact ev_eq no (if_neg (fun h => h3 h.2)).symm
      · exact ev_eq (ev_neg (by simp [h2]) no) (if_neg (fun h => h2 h.1)).symm
    · rw [if_neg h1]
      by_cases h2 : 97 ≤ kind ∧ kind ≤ 122
      · exact ev_pos (decide_eq_true h2) (ev_pos (by omega) no)
      · exact ev_neg (by simp [h2]) no
  · have hsm : ¬ small l = true := fun h => hA (fun i hi => of_decide_eq_true ((all_at l _).1 h i hi))
    refine ev_eq (loop_no l.length (fun i k => spec_ListDigest.l0 k kind l l (l.length : Int) (i : Int)) _ (⟨#[]⟩, false) round (fun i hi hq => ?_) hA) ?_
    · have hq' : ¬ (rdOf ByteArray.empty l (i : Int)).size ≤ 100 := hq
      refine Ev.step (f := fun _ => some (⟨#[]⟩, false)) (fun k => ?_) (Ev.now _)
      simp only [spec_ListDigest.l0]
      rw [if_pos (by omega), if_pos (by omega), if_pos (by omega), if_pos (by omega)]
    · unfold listDigestM
      rw [if_neg hsm]
      split <;> rfl
def clashM (kind : Int) (a b : ByteArray) : Bool × Bool :=
  if (digestOfM kind a).2 = true then (if (digestOfM kind b).2 = true then (if a.toList = b.toList then (false, true) else ((digestOfM kind a).1.toList == (digestOfM kind b).1.toList, true)) else (false, false)) else (false, false)
theorem clashI (kind : Int) (a b : ByteArray) : Ev (fun k => impl_ClashOf.f k kind a b) (clashM kind a b) := by
  refine ev_bind (digestOfI kind a) (ev_bind (digestOfI kind b) ?_)
  unfold clashM
  exact ev_now_of (by repeat (first | rfl | split))
theorem clashS (kind : Int) (a b : ByteArray) : Ev (fun k => spec_ClashOf.f k kind a b) (clashM kind a b) := by
  refine ev_bind (digestOfS kind a) (ev_bind (digestOfS kind b) ?_)
  unfold clashM
  exact ev_now_of (by repeat (first | rfl | split))
theorem aca_fold (p : Int × Int) : dfold p [97, 99, 97] = dfold p [98, 97, 98] := by
  show dstep (dstep (dstep p 97) 99) 97 = dstep (dstep (dstep p 98) 97) 98
  have e1 : ((97 : UInt8).toNat : Int) = 97 := rfl
  have e2 : ((98 : UInt8).toNat : Int) = 98 := rfl
  have e3 : ((99 : UInt8).toNat : Int) = 99 := rfl
  simp only [dstep, e1, e2, e3]
  refine Prod.ext ?_ ?_
  · simp only; omega
  · simp only; omega
theorem app_toList (a b : ByteArray) : (a ++ b).toList = a.toList ++ b.toList := by
  rw [ByteArray.toList_eq, ByteArray.toList_eq, ByteArray.toList_eq, ByteArray.data_append, Array.toList_append]
theorem aca_dig (kind : Int) (p q : ByteArray) : dig kind (p ++ ⟨#[97, 99, 97]⟩ ++ q) = dig kind (p ++ ⟨#[98, 97, 98]⟩ ++ q) := by
  unfold dig
  rw [app_toList, app_toList, app_toList, app_toList, ByteArray.toList_eq, ByteArray.toList_eq, ByteArray.toList_eq, ByteArray.toList_eq]
  unfold dfold
  rw [List.foldl_append, List.foldl_append, List.foldl_append, List.foldl_append]
  have := aca_fold (List.foldl dstep (kind + 1, kind + 1) p.data.toList)
  unfold dfold at this
  rw [this]
theorem aca_ne (p q : ByteArray) : (p ++ (⟨#[97, 99, 97]⟩ : ByteArray) ++ q).toList ≠ (p ++ (⟨#[98, 97, 98]⟩ : ByteArray) ++ q).toList := by
  rw [app_toList, app_toList, app_toList, app_toList]
  intro h
  rw [List.append_assoc, List.append_assoc] at h
  have h := List.append_cancel_left h
  rw [ByteArray.toList_eq, ByteArray.toList_eq, ByteArray.toList_eq] at h
  simp at h
theorem kind_d {c : List Int} (hc : Bys c) (i s : Int) (h0 : 0 ≤ i) (h1 : i ≤ 100000000000) : Drawn i 2 (spec_l1Cur_kind.f c i s) (fun _ => True) := by
  obtain ⟨v, i', s', e, hv, hi1, hi2⟩ := of_d hc i s [⟨#[97]⟩, ⟨#[108]⟩, ⟨#[110]⟩, ⟨#[122]⟩, ⟨#[65]⟩, ⟨#[48]⟩] h0 h1 (by decide)
  have hz : v.size = 1 := by
    simp only [List.mem_cons, List.not_mem_nil, or_false] at hv
    rcases hv with rfl | rfl | rfl | rfl | rfl | rfl <;> rfl
  unfold spec_l1Cur_kind.f
  rw [e]
  simp only [Option.bind_some]
  rw [if_pos (by omega)]
  exact ⟨_, _, _, rfl, trivial, hi1, hi2⟩
theorem drawDigestOf {c : List Int} (hc : Bys c) : ∃ kd t, Ev (fun k => spec_DrawDigestOf.f k c) (kd, t) ∧ t.size ≤ 601 := by
  obtain ⟨v, i1, s1, e, _, h1, h2⟩ := kind_d hc 0 0 (by omega) (by omega)
  obtain ⟨t, i2, s2, ht, hz, h3, h4⟩ := text_d hc i1 s1 (by omega) (by omega)
  exact ⟨v, t, ev_const e (ev_bind ht (Ev.now _)), hz⟩
theorem drawClashOf {c : List Int} (hc : Bys c) : ∃ kd a b, Ev (fun k => spec_DrawClashOf.f k c) (kd, a, b) := by
  obtain ⟨v, i1, s1, e, _, h1, h2⟩ := kind_d hc 0 0 (by omega) (by omega)
  obtain ⟨n, i2, s2, e2, _, h3, h4⟩ := pick_d hc i1 s1 3 (by omega) (by omega) (by omega)
  obtain ⟨t, i3, s3, ht, hz, h5, h6⟩ := text_d hc i2 s2 (by omega) (by omega)
  obtain ⟨u, i4, s4, hu, hz2, h7, h8⟩ := text_d hc i3 s3 (by omega) (by omega)
  by_cases c0 : n = 0
  · exact ⟨_, _, _, ev_const e (ev_const e2 (ev_pos c0 (Ev.now _)))⟩
  · by_cases c1 : n = 1
    · exact ⟨_, _, _, ev_const e (ev_const e2 (ev_neg c0 (ev_pos c1 (ev_bind ht (Ev.now _)))))⟩
    · exact ⟨_, _, _, ev_const e (ev_const e2 (ev_neg c0 (ev_neg c1 (ev_bind ht (ev_bind hu (Ev.now _))))))⟩
theorem drawListDigest {c : List Int} (hc : Bys c) : ∃ kd l, Ev (fun k => spec_DrawListDigest.f k c) (kd, l) ∧ l.length ≤ 21 := by
  obtain ⟨l, i1, s1, hl, hp, h1, h2⟩ := texts_d hc 0 0 6 (by omega) (by omega) (by omega)
  obtain ⟨b, i2, s2, e2, _, h3, h4⟩ := one_d hc i1 s1 12 (by omega) (by omega) (by omega)
  have tail : ∀ (l : List ByteArray) (i s : Int), l.length ≤ 7 → 0 ≤ i → i ≤ 1000000 → ∃ kd l', Ev (fun k => spec_DrawListDigest.j0 k l c i s) (kd, l') ∧ l'.length ≤ 21 := by
    intro l i s hl h0 h1
    obtain ⟨b, i2, s2, e2, _, h3, h4⟩ := one_d hc i s 20 (by omega) (by omega) (by omega)
    have st : ∀ {r}, Ev (fun k => if b = true then ((spec_l1Cur_pick.f c i2 s2 2).bind fun bt602 => (if 0 ≤ (wrap64 (20 + bt602.1)) then (if (wrap64 (20 + bt602.1) : Int).toNat ≤ 17592186044416 then ((spec_l1Cur_kind.f c bt602.2.1 bt602.2.2).bind fun bt608 => (some (bt608.1, (List.replicate (wrap64 (20 + bt602.1) : Int).toNat (⟨#[]⟩ : ByteArray))))) else (none)) else (none))) else ((spec_l1Cur_kind.f c i2 s2).bind fun bt611 => (some (bt611.1, l)))) r → Ev (fun k => spec_DrawListDigest.j0 k l c i s) r := fun h => Ev.step (fun k => by simp only [spec_DrawListDigest.j0, e2, Option.bind_some]) h
    cases b with
    | true =>
      obtain ⟨n, i3, s3, e3, hn, h5, h6⟩ := pick_d hc i2 s2 2 (by omega) (by omega) (by omega)
      obtain ⟨v, i4, s4, e4, _, h7, h8⟩ := kind_d hc i3 s3 (by omega) (by omega)
      have ew : wrap64 (20 + n) = 20 + n := w64 (by omega) (by omega)
      refine ⟨v, List.replicate (20 + n).toNat ⟨#[]⟩, st (ev_pos rfl (ev_const e3 ?_)), ?_⟩
      · rw [ew]
        exact ev_pos (by omega) (ev_pos (by omega) (ev_const e4 (Ev.now _)))
      · rw [List.length_replicate]; omega
    | false =>
      obtain ⟨v, i4, s4, e4, _, h7, h8⟩ := kind_d hc i2 s2 (by omega) (by omega)
      exact ⟨v, l, st (ev_neg (by simp) (ev_const e4 (Ev.now _))), by omega⟩
  cases b with
  | true =>
    obtain ⟨n, i3, s3, e3, hn, h5, h6⟩ := pick_d hc i2 s2 2 (by omega) (by omega) (by omega)
    have ew : wrap64 (100 + n) = 100 + n := w64 (by omega) (by omega)
    obtain ⟨kd, l', hr, hz⟩ := tail (l ++ [strOfNums (List.replicate (100 + n).toNat 0)]) i3 s3 (by rw [List.length_append]; simp only [List.length_cons, List.length_nil]; omega) (by omega) (by omega)
    refine ⟨kd, l', ev_bind hl (ev_const e2 (ev_pos rfl (ev_const e3 ?_))), hz⟩
    rw [ew]
    have hl7 : l.length < 8796093022208 := by omega
    exact ev_pos (by omega) (ev_pos (by omega) (ev_pos hl7 hr))
  | false =>
    obtain ⟨kd, l', hr, hz⟩ := tail l i2 s2 (by omega) (by omega) (by omega)
    exact ⟨kd, l', ev_bind hl (ev_const e2 (ev_neg (by simp) hr)), hz⟩
theorem FnClashes : laws_FnClashes.Pure := by
  intro l0 l1 hl0 _ hc0 hl1 _ hc1
  refine Ev.rounds ?_
  unfold laws_FnClashes.f
  have hm : maxLen ≤ 9223372036854775807 := by unfold maxLen; omega
  by_cases hsz : wrap64 ((l0.length : Int) + (l1.length : Int)) > 1048576
  · exact ev_pos hsz (Ev.now _)
  have hn : (l1.length : Int) ≤ 2000000 := by
    have h1 : (l0.length : Int) ≤ 140737488351232 := by omega
    have h2 : (l1.length : Int) ≤ 140737488351232 := by omega
    rw [w64 (by omega) (by omega)] at hsz
    omega
  refine ev_neg hsz ?_
  have c0 := code_of l0 hc0
  have c1 := code_of l1 hc1
  obtain ⟨kd, s, hd, hs⟩ := drawDigestOf c0
  refine ev_bind hd (ev_bind (digestOfI kd s) (ev_bind (digestOfS kd s) ?_))
  refine ev_neg (by simp) ?_
  simp only [bne_self_eq_false]
  -- the end: lists
  obtain ⟨q, l, hq, hql⟩ := drawListDigest c1
  have hI := listDigestI q l
  have hS := listDigestS q l (by omega)
  have j5 : Ev (fun k => laws_FnClashes.j5 k l1 false) true := by
    refine Ev.step (f := fun k => _) (fun k => by simp only [laws_FnClashes.j5]; rfl) ?_
    exact ev_neg (by simp) (ev_bind hq (ev_bind hI (ev_bind hS (ev_pos (by simp) (ev_eq (Ev.now _) (by simp))))))
  -- the clash that is drawn
  obtain ⟨g, a, b, hcl⟩ := drawClashOf c1
  have j2 : Ev (fun k => laws_FnClashes.j2 k l1) true := by
    refine Ev.step (f := fun k => _) (fun k => by simp only [laws_FnClashes.j2]; rfl) ?_
    refine ev_bind hcl (ev_bind (clashI g a b) (ev_bind (clashS g a b) (ev_neg (by simp) ?_)))
    simp only [bne_self_eq_false]
    have j4f : Ev (fun k => laws_FnClashes.j4 k l1 g a b false) true := by
      refine Ev.step (f := fun k => _) (fun k => by simp only [laws_FnClashes.j4]; rfl) ?_
      exact ev_neg (by simp) (ev_bind hq (ev_bind hI (ev_bind hS (ev_pos (by simp) (ev_eq (Ev.now _) (by simp))))))
    refine Ev.step (f := fun k => _) (fun k => by simp only [laws_FnClashes.j3]; rfl) ?_
    refine ev_neg (by simp) ?_
    cases e1 : (clashM g a b).2 with
    | false => exact ev_neg (by simp) j4f
    | true =>
      refine ev_pos rfl ?_
      cases e2 : (clashM g a b).1 with
      | false => exact j4f
      | true =>
        have hx : (digestOfM g a).2 = true ∧ (digestOfM g b).2 = true ∧ ¬ a.toList = b.toList ∧ (digestOfM g a).1.toList = (digestOfM g b).1.toList := by
          unfold clashM at e2
          by_cases p1 : (digestOfM g a).2 = true
          · rw [if_pos p1] at e2
            by_cases p2 : (digestOfM g b).2 = true
            · rw [if_pos p2] at e2
              by_cases p3 : a.toList = b.toList
              · rw [if_pos p3] at e2; cases e2
              · rw [if_neg p3] at e2
                exact ⟨p1, p2, p3, by simpa using e2⟩
            · rw [if_neg p2] at e2; cases e2
          · rw [if_neg p1] at e2; cases e2
        refine Ev.step (f := fun k => _) (fun k => by simp only [laws_FnClashes.j4]; rfl) ?_
        refine ev_pos trivial (ev_bind (digestOfI g a) (ev_bind (digestOfI g b) (ev_pos hx.1 (ev_pos hx.2.1 (ev_pos hx.2.2.2 ?_)))))
        rw [show (a.toList == b.toList) = false from beq_eq_false_iff_ne.mpr hx.2.2.1]
        exact j5
  -- the two letters
  refine Ev.step (f := fun k => _) (fun k => by simp only [laws_FnClashes.j0]; rfl) ?_
  refine ev_neg (by simp) ?_
  have j1f : Ev (fun k => laws_FnClashes.j1 k l1 kd s false) true := by
    refine Ev.step (f := fun k => _) (fun k => by simp only [laws_FnClashes.j1]; rfl) ?_
    exact ev_neg (by simp) j2
  cases e1 : (digestOfM kd s).2 with
  | false => exact ev_neg (by simp) j1f
  | true =>
    refine ev_pos rfl ?_
    have hk : 97 ≤ kd ∧ kd ≤ 122 := by
      unfold digestOfM at e1
      by_cases h : (97 ≤ kd ∧ kd ≤ 122) ∧ s.size ≤ 600
      · exact h.1
      · rw [if_neg h] at e1; cases e1
    rw [w64 (x := (s.size : Int) + 3) (by omega) (by omega)]
    by_cases h3 : (s.size : Int) + 3 ≤ 600
    · rw [decide_eq_true h3]
      obtain ⟨n, hnum, n0, n1⟩ := number_d c1 (by omega)
      refine Ev.step (f := fun k => _) (fun k => by simp only [laws_FnClashes.j1]; rfl) ?_
      refine ev_pos trivial (ev_bind hnum ?_)
      rw [w64 (x := (s.size : Int) + 1) (by omega) (by omega), Int.tmod_eq_emod_of_nonneg n0]
      have m0 := Int.emod_nonneg n (show (s.size : Int) + 1 ≠ 0 by omega)
      have m1 := Int.emod_lt_of_pos n (show 0 < (s.size : Int) + 1 by omega)
      obtain ⟨j, hj⟩ := Int.eq_ofNat_of_zero_le m0
      rw [hj] at m1 ⊢
      refine ev_neg (by omega) (ev_pos (by omega) (ev_pos (by omega) ?_))
      rw [Int.toNat_natCast]
      have z1 : (s.extract 0 j).size = j := by rw [ByteArray.size_extract]; omega
      have z2 : (s.extract j s.size).size = s.size - j := by rw [ByteArray.size_extract]; omega
      have z3 : ∀ c : ByteArray, c.size = 3 → (s.extract 0 j ++ c ++ s.extract j s.size).size = s.size + 3 := fun c hc => by rw [app_size, app_size, z1, z2, hc]; omega
      have y1 := z3 ⟨#[97, 99, 97]⟩ rfl
      have y2 := z3 ⟨#[98, 97, 98]⟩ rfl
      rw [app_size] at y1 y2
      refine ev_pos (by rw [z1]; omega) (ev_pos (by omega) (ev_pos (by omega) ?_))
      rw [← app_size] at y1 y2
      have v1 : clashM kd (s.extract 0 j ++ ⟨#[97, 99, 97]⟩ ++ s.extract j s.size) (s.extract 0 j ++ ⟨#[98, 97, 98]⟩ ++ s.extract j s.size) = (true, true) := by
        have d1 : ∀ x : ByteArray, x.size ≤ 600 → digestOfM kd x = (dig kd x, true) := fun x hx => by unfold digestOfM; exact if_pos ⟨hk, hx⟩
        unfold clashM
        rw [d1 _ (by omega), d1 _ (by omega), if_pos rfl, if_pos rfl, if_neg (aca_ne _ _), aca_dig]
        simp
      have v2 : clashM kd s s = (false, true) := by
        unfold clashM
        rw [e1, if_pos rfl, if_pos rfl, if_pos rfl]
      refine ev_bind (clashI _ _ _) (ev_bind (clashI _ _ _) ?_)
      rw [v1, v2]
      exact ev_pos rfl (ev_pos rfl (ev_pos rfl (ev_neg (by simp) j2)))
    · rw [decide_eq_false h3]
      exact j1f
end Go.Proofs.Ytleegjkloclolaa.Pure
end
