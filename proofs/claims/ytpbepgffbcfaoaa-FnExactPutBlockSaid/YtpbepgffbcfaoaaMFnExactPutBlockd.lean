/- For the law FnExactPutBlock (laid by merge.py). -/
import Derived.Test.YtpbepgffbcfaoaaMFnExactPutBlockc
import Derived.Deep.Slices
import Derived.ChangeArms
import Derived.DataReads
section
namespace Go.Proofs.Ytpbepgffbcfaoaa.PD
open Go.RowKit Go.Proofs.YtpbepgffbcfaoaaW.PrintWords Go.Proofs.YtpbepgffbcfaoaaW.PrintLast Go.Proofs.YtpbepgffbcfaoaaW.PrintMore Go.Proofs.Ytpbepgffbcfaoaa.PB Go.Proofs.Ytpbepgffbcfaoaa.PA
set_option linter.unusedVariables false
def dstep (p : Int × Int) (c : UInt8) : Int × Int := ((p.1 + (c.toNat : Int)) % 65521, (p.2 + (p.1 + (c.toNat : Int)) % 65521) % 65521)
def dfold (p : Int × Int) (l : List UInt8) : Int × Int := l.foldl dstep p
def InP (p : Int × Int) : Prop := 0 ≤ p.1 ∧ p.1 < 65521 ∧ 0 ≤ p.2 ∧ p.2 < 65521
theorem dstep_in {p : Int × Int} {c : UInt8} : InP (dstep p c) := by
 unfold InP dstep; refine ⟨?_, ?_, ?_, ?_⟩ <;> simp only <;> omega
theorem dfold_in {p : Int × Int} (h : InP p) (l : List UInt8) : InP (dfold p l) := by
 induction l generalizing p with
 | nil => exact h
 | cons c l ih => exact ih dstep_in
def four (p : Int × Int) : ByteArray := strOfNums [p.2 / 256 % 256, p.2 % 256, p.1 / 256 % 256, p.1 % 256]
def dig (kind : Int) (s : ByteArray) : ByteArray := four (dfold (kind + 1, kind + 1) s.toList)
theorem four_size (p : Int × Int) : (four p).size = 4 := by unfold four; rw [strOfNums_size]; rfl
theorem dig_size (kind : Int) (s : ByteArray) : (dig kind s).size = 4 := four_size _
theorem drop_at (l : List UInt8) (i : Nat) (h : i < l.length) : l.drop i = l.getD i 0 :: l.drop (i + 1) := by
 rw [List.drop_eq_getElem_cons h]; simp [List.getD_eq_getElem?_getD, List.getElem?_eq_getElem h]
theorem step_arith {A B : Int} {c : Nat} (hA : 0 ≤ A ∧ A < 65521 ∧ 0 ≤ B ∧ B < 65521) (hc : c < 256) :
  Int.tmod (wrap64 (A + wrap64 (c : Int))) 65521 = (A + (c : Int)) % 65521 ∧ Int.tmod (wrap64 (B + (A + (c : Int)) % 65521)) 65521 = (B + (A + (c : Int)) % 65521) % 65521 := by
 have h1 : wrap64 (c : Int) = c := w64 (by omega) (by omega)
 have h2 : wrap64 (A + c) = A + c := w64 (by omega) (by omega)
 have h3 : wrap64 (B + (A + (c : Int)) % 65521) = B + (A + (c : Int)) % 65521 := w64 (by omega) (by omega)
 rw [h1, h2, h3, Int.tmod_eq_emod_of_nonneg (by omega), Int.tmod_eq_emod_of_nonneg (by omega)]
 exact ⟨rfl, rfl⟩
theorem feed_spec (s : ByteArray) (hs : s.size ≤ 1000000000000) (L : Int) (hL : 0 ≤ L ∧ L ≤ 1000000000000) : ∀ (d i : Nat) (A B : Int), i + d = s.size → InP (A, B) →
  Ev (fun k => spec_l1Feed.l0 k s (i : Int) A B L) ((dfold (A, B) (s.toList.drop i)).1, (dfold (A, B) (s.toList.drop i)).2, L + s.size) := by
 intro d
 induction d with
 | zero =>
  intro i A B hi hp
  refine Ev.step (f := fun _ => some (A, B, wrap64 (L + (s.size : Int)))) (fun k => ?_) ?_
  ·simp only [spec_l1Feed.l0]; rw [if_neg (by omega)]
  ·rw [List.drop_eq_nil_of_le (by rw [size_toList]; omega)]
   rw [w64 (by omega) (by omega)]
   exact Ev.now _
 | succ d ih =>
  intro i A B hi hp
  have hlt : i < s.size := by omega
  have hb := bt_get s i hlt
  have hc : (s.toList.getD i 0).toNat < 256 := UInt8.toNat_lt _
  have ha := step_arith (A := A) (B := B) hp hc
  refine Ev.step (f := fun k => spec_l1Feed.l0 k s ((i + 1 : Nat) : Int) (dstep (A, B) (s.toList.getD i 0)).1 (dstep (A, B) (s.toList.getD i 0)).2 L) (fun k => ?_) ?_
  ·simp only [spec_l1Feed.l0]; rw [if_pos (by omega), if_pos (by omega), hb, ha.1, ha.2, w64 (x := (i : Int) + 1) (by omega) (by omega)]
   simp only [dstep]
   congr 1
  ·rw [drop_at _ _ (by rw [size_toList]; exact hlt)]
   exact ih (i + 1) _ _ (by omega) dstep_in
theorem feed_impl (s : ByteArray) (hs : s.size ≤ 1000000000000) (L : Int) (hL : 0 ≤ L ∧ L ≤ 1000000000000) : ∀ (d i : Nat) (A B : Int), i + d = s.size → InP (A, B) →
  Ev (fun k => impl_Mix_feed.l0 k s (s.size : Int) (i : Int) A B L) ((dfold (A, B) (s.toList.drop i)).1, (dfold (A, B) (s.toList.drop i)).2, L + s.size) := by
 intro d
 induction d with
 | zero =>
  intro i A B hi hp
  refine Ev.step (f := fun _ => some (A, B, wrap64 (L + (s.size : Int)))) (fun k => ?_) ?_
  ·simp only [impl_Mix_feed.l0]; rw [if_neg (by omega)]
  ·rw [List.drop_eq_nil_of_le (by rw [size_toList]; omega)]
   rw [w64 (by omega) (by omega)]
   exact Ev.now _
 | succ d ih =>
  intro i A B hi hp
  have hlt : i < s.size := by omega
  have hb := bt_get s i hlt
  have hc : (s.toList.getD i 0).toNat < 256 := UInt8.toNat_lt _
  have ha := step_arith (A := A) (B := B) hp hc
  refine Ev.step (f := fun k => impl_Mix_feed.l0 k s (s.size : Int) ((i + 1 : Nat) : Int) (dstep (A, B) (s.toList.getD i 0)).1 (dstep (A, B) (s.toList.getD i 0)).2 L) (fun k => ?_) ?_
  ·simp only [impl_Mix_feed.l0]; rw [if_pos (by omega), if_pos (by omega), if_pos (by omega), hb, ha.1, ha.2, w64 (x := (i : Int) + 1) (by omega) (by omega)]
   simp only [dstep]
   congr 1
  ·rw [drop_at _ _ (by rw [size_toList]; exact hlt)]
   exact ih (i + 1) _ _ (by omega) dstep_in
def Kd_ (c : Int) : Prop := 97 ≤ c ∧ c ≤ 122
theorem digS (kind : Int) (hk : Kd_ kind) (s : ByteArray) (hs : s.size ≤ 1000000000000) : Ev (fun k => spec_l1Digest.f k kind s) (dig kind s) := by
 obtain ⟨h0, h1⟩ := hk
 have e1 : spec_NewMix.f kind = some (kind + 1, kind + 1, 0, true) := by
  unfold spec_NewMix.f spec_l1Kind.f
  rw [if_pos (by omega)]
  simp only [Option.bind_some, decide_eq_true h1, if_true]
  rw [w64 (x := kind) (by omega) (by omega), w64 (by omega) (by omega), Int.add_comm]
 have hp : InP (kind + 1, kind + 1) := by unfold InP; refine ⟨?_, ?_, ?_, ?_⟩ <;> simp only <;> omega
 obtain ⟨K, h⟩ := feed_spec s hs 0 (by omega) s.size 0 (kind + 1) (kind + 1) (by omega) hp
 refine ⟨K, fun k hk => ?_⟩
 have h' := h k hk
 dsimp only at h'
 rw [show ((0 : Nat) : Int) = 0 from rfl] at h'
 unfold spec_l1Digest.f spec_l1Feed.f spec_l1End.f
 simp only [e1, Option.bind_some]
 rw [h']
 simp only [Option.bind_some, List.drop_zero]
 rfl
theorem digI (kind : Int) (hk : Kd_ kind) (s : ByteArray) (hs : s.size ≤ 1000000000000) : Ev (fun k => impl_digest.f k kind s) (dig kind s) := by
 obtain ⟨h0, h1⟩ := hk
 have e1 : impl_newMix.f kind = some (kind + 1, kind + 1, 0) := by
  unfold impl_newMix.f
  rw [w64 (x := kind) (by omega) (by omega), w64 (by omega) (by omega)]
 have hp : InP (kind + 1, kind + 1) := by unfold InP; refine ⟨?_, ?_, ?_, ?_⟩ <;> simp only <;> omega
 obtain ⟨K, h⟩ := feed_impl s hs 0 (by omega) s.size 0 (kind + 1) (kind + 1) (by omega) hp
 refine ⟨K, fun k hk => ?_⟩
 have h' := h k hk
 dsimp only at h'
 rw [show ((0 : Nat) : Int) = 0 from rfl] at h'
 have hq := dfold_in hp s.toList
 unfold impl_digest.f impl_Mix_feed.f impl_Mix_end.f
 simp only [e1, Option.bind_some]
 rw [h']
 simp only [Option.bind_some, List.drop_zero]
 unfold dig four
 generalize dfold (kind + 1, kind + 1) s.toList = p at hq ⊢
 obtain ⟨q0, q1, q2, q3⟩ := hq
 rw [Int.tdiv_eq_ediv_of_nonneg q2, Int.tdiv_eq_ediv_of_nonneg q0, Int.tmod_eq_emod_of_nonneg q2, Int.tmod_eq_emod_of_nonneg q0, w64 (x := p.2 / 256) (by omega) (by omega), w64 (x := p.1 / 256) (by omega) (by omega)]
 rw [Int.emod_emod_of_dvd p.2 (Int.dvd_refl _), Int.emod_emod_of_dvd p.1 (Int.dvd_refl _)]
def one (n : Int) : ByteArray := strOfNums [n % 256]
theorem one_size (n : Int) : (one n).size = 1 := by unfold one; rw [strOfNums_size]; rfl
theorem oneI (n : Int) : impl_oneByte.f n = some (one n) := rfl
end Go.Proofs.Ytpbepgffbcfaoaa.PD
end
section
namespace Go.Proofs.Ytpbepgffbcfaoaa.PK
open Go.RowKit Go.Proofs.YtpbepgffbcfaoaaW.PrintWords Go.Proofs.YtpbepgffbcfaoaaW.PrintLast Go.Proofs.YtpbepgffbcfaoaaW.PrintMore Go.Proofs.Ytpbepgffbcfaoaa.PB Go.Proofs.Ytpbepgffbcfaoaa.PD Go.Proofs.Ytpbepgffbcfaoaa.PA
set_option linter.unusedVariables false
theorem app_size (a b : ByteArray) : (a ++ b).size = a.size + b.size := ByteArray.size_append
end Go.Proofs.Ytpbepgffbcfaoaa.PK
end
section
namespace Go.Proofs.Ytpbepgffbcfaoaa.PL
open Go.RowKit Go.Proofs.YtpbepgffbcfaoaaW.PrintWords Go.Proofs.YtpbepgffbcfaoaaW.PrintLast Go.Proofs.YtpbepgffbcfaoaaW.PrintMore Go.Proofs.Ytpbepgffbcfaoaa.PB Go.Proofs.Ytpbepgffbcfaoaa.PA
set_option linter.unusedVariables false
theorem rdOf_at {α : Type} (d : α) (l : List α) (i : Nat) (h : i < l.length) : rdOf d l (i : Int) = l[i] := by
 simp [rdOf, List.getD_eq_getElem?_getD, List.getElem?_eq_getElem h]
def filled {α β : Type} (f : α → β) (z : β) (l : List α) (i : Nat) : List β := (l.take i).map f ++ List.replicate (l.length - i) z
theorem filled_length {α β : Type} (f : α → β) (z : β) (l : List α) (i : Nat) (h : i ≤ l.length) : (filled f z l i).length = l.length := by
 simp [filled, Nat.min_eq_left h]; omega
theorem filled_zero {α β : Type} (f : α → β) (z : β) (l : List α) : filled f z l 0 = List.replicate l.length z := by simp [filled]
theorem filled_all {α β : Type} (f : α → β) (z : β) (l : List α) : filled f z l l.length = l.map f := by simp [filled]
theorem filled_set {α β : Type} (f : α → β) (z : β) (l : List α) (i : Nat) (h : i < l.length) : (filled f z l i).set i (f l[i]) = filled f z l (i + 1) := by
 unfold filled
 rw [List.take_succ_eq_append_getElem h, List.map_append, List.map_cons, List.map_nil]
 have hl : ((l.take i).map f).length = i := by simp [Nat.min_eq_left (Nat.le_of_lt h)]
 obtain ⟨m, hm⟩ : ∃ m, l.length - i = m + 1 := ⟨l.length - i - 1, by omega⟩
 rw [hm, List.replicate_succ, List.set_append_right _ _ (by omega), hl, Nat.sub_self, List.set_cons_zero, show l.length - (i + 1) = m by omega]
 simp
theorem toS (l : List ByteArray) (hl : l.length ≤ 2000000) : Ev (fun k => laws_toStringS.f k l) l := by
 have key : ∀ (d i : Nat), i + d = l.length → Ev (fun k => laws_toStringS.l0 k l (filled (fun x => x) ⟨#[]⟩ l i) (i : Int)) l := by
  intro d
  induction d with
  | zero =>
   intro i hi
   have hi' : i = l.length := by omega
   subst hi'
   refine Ev.step (f := fun _ => some l) (fun k => ?_) (Ev.now _)
   simp only [laws_toStringS.l0]
   rw [if_neg (by omega), filled_all]
   simp
  | succ d ih =>
   intro i hi
   have hlt : i < l.length := by omega
   refine Ev.step (f := fun k => laws_toStringS.l0 k l (filled (fun x => x) ⟨#[]⟩ l (i + 1)) ((i + 1 : Nat) : Int)) (fun k => ?_) (ih (i + 1) (by omega))
   simp only [laws_toStringS.l0]
   rw [if_pos (by omega), if_pos (by omega), if_pos (by rw [filled_length _ _ _ _ (by omega)]; omega), rdOf_at _ _ _ hlt, w64 (x := (i : Int) + 1) (by omega) (by omega)]
   rw [show ((i : Int)).toNat = i from by omega, filled_set (fun x => x) _ l i hlt]
   rfl
 refine Ev.congr (f := fun k => laws_toStringS.l0 k l (filled (fun x => x) ⟨#[]⟩ l 0) ((0 : Nat) : Int)) (fun k => ?_) (key l.length 0 (by omega))
 simp only [laws_toStringS.f]
 rw [if_pos (by omega), if_pos (by omega), filled_zero]
 rfl
theorem eqS_yes (l : List ByteArray) (hl : l.length ≤ 2000000) : Ev (fun k => laws_eqStringS.f k l l) true := by
 have key : ∀ (d i : Nat), i + d = l.length → Ev (fun k => laws_eqStringS.l0 k l l (i : Int)) true := by
  intro d
  induction d with
  | zero =>
   intro i hi
   refine Ev.step (f := fun _ => some true) (fun k => ?_) (Ev.now _)
   simp only [laws_eqStringS.l0]
   rw [if_neg (by omega)]
  | succ d ih =>
   intro i hi
   refine Ev.step (f := fun k => laws_eqStringS.l0 k l l ((i + 1 : Nat) : Int)) (fun k => ?_) (ih (i + 1) (by omega))
   simp only [laws_eqStringS.l0]
   rw [if_pos (by omega), if_pos (by omega), if_pos (by omega), if_pos trivial, w64 (x := (i : Int) + 1) (by omega) (by omega)]
   rfl
 refine Ev.congr (f := fun k => laws_eqStringS.l0 k l l ((0 : Nat) : Int)) (fun k => ?_) (key l.length 0 (by omega))
 simp only [laws_eqStringS.f]
 rw [if_pos trivial]
 rfl
def szL : List ByteArray → Nat
 | [] => 0
 | s :: l => s.size + szL l
def total (l : List ByteArray) : Nat := l.length + szL l
def Fit (l : List ByteArray) : Prop := l.length ≤ 9223372036854775807 ∧ ∀ s ∈ l, s.size ≤ 9223372036854775807
theorem szS_loop (l : List ByteArray) (hf : Fit l) : ∀ (d i : Nat) (R : Int), i + d = l.length → 0 ≤ R → R ≤ 1000000000000 → l.length ≤ 1000000000000 →
  Ev (fun k => laws_szStringS.l0 k l R (i : Int)) (if (szL (l.drop i) : Int) ≤ R then R - szL (l.drop i) else -1) := by
 intro d
 induction d with
 | zero =>
  intro i R hi h0 h1 h2
  rw [List.drop_eq_nil_of_le (by omega)]
  refine Ev.step (f := fun _ => some R) (fun k => ?_) ?_
  ·simp only [laws_szStringS.l0]
   rw [if_neg (by omega)]
  ·rw [show szL [] = 0 from rfl, if_pos (by omega)]
   exact ev_eq (Ev.now R) (by omega)
 | succ d ih =>
  intro i R hi h0 h1 h2
  have hlt : i < l.length := by omega
  have hs := hf.2 _ (List.getElem_mem hlt)
  rw [List.drop_eq_getElem_cons hlt, show szL (l[i] :: l.drop (i + 1)) = l[i].size + szL (l.drop (i + 1)) from rfl]
  by_cases hc : (l[i].size : Int) ≤ R
  ·refine Ev.step (f := fun k => laws_szStringS.l0 k l (R - l[i].size) ((i + 1 : Nat) : Int)) (fun k => ?_) ?_
   ·simp only [laws_szStringS.l0]
    rw [if_pos (by omega), if_pos (by omega), rdOf_at _ _ _ hlt, w64 (x := R - (l[i].size : Int)) (by omega) (by omega), if_neg (by omega), w64 (x := (i : Int) + 1) (by omega) (by omega)]
    rfl
   ·refine ev_eq (ih (i + 1) (R - l[i].size) (by omega) (by omega) (by omega) h2) ?_
    by_cases hd : (szL (l.drop (i + 1)) : Int) ≤ R - l[i].size
    ·rw [if_pos hd, if_pos (by omega)]; omega
    ·rw [if_neg hd, if_neg (by omega)]
  ·refine Ev.step (f := fun _ => some (-1)) (fun k => ?_) ?_
   ·simp only [laws_szStringS.l0]
    rw [if_pos (by omega), if_pos (by omega), rdOf_at _ _ _ hlt, w64 (x := R - (l[i].size : Int)) (by omega) (by omega), if_pos (by omega)]
   ·rw [if_neg (by omega)]
    exact Ev.now _
theorem szS (l : List ByteArray) (hf : Fit l) (R : Int) (h0 : 0 ≤ R) (h1 : R ≤ 1000000000) : Ev (fun k => laws_szStringS.f k l R) (if (total l : Int) ≤ R then R - total l else -1) := by
 have hl := hf.1
 by_cases hc : (l.length : Int) ≤ R
 ·refine Ev.congr (f := fun k => laws_szStringS.l0 k l (R - l.length) ((0 : Nat) : Int)) (fun k => ?_) ?_
  ·simp only [laws_szStringS.f]
   rw [w64 (x := R - (l.length : Int)) (by omega) (by omega), if_neg (by omega)]
   rfl
  ·refine ev_eq (szS_loop l hf l.length 0 (R - l.length) (by omega) (by omega) (by omega) (by omega)) ?_
   rw [List.drop_zero]
   unfold total
   by_cases hd : (szL l : Int) ≤ R - l.length
   ·rw [if_pos hd, if_pos (by omega)]; omega
   ·rw [if_neg hd, if_neg (by omega)]
 ·refine Ev.congr (f := fun _ => some (-1)) (fun k => ?_) ?_
  ·simp only [laws_szStringS.f]
   rw [w64 (x := R - (l.length : Int)) (by omega) (by omega), if_pos (by omega)]
  ·unfold total
   rw [if_neg (by omega)]
   exact Ev.now _
theorem mark_go : ∀ (m n : Nat) (out : ByteArray), n < 10 ^ m → out.size + m ≤ 1000 → n ≤ 1000000000000000000 → ∃ t, Ev (fun k => laws_markText.l0 k (n : Int) out) t := by
 intro m
 induction m with
 | zero =>
  intro n out hn ho _
  have : n = 0 := by simpa using hn
  subst this
  refine ⟨(⟨#[109]⟩ : ByteArray) ++ out, Ev.step (f := fun _ => some ((⟨#[109]⟩ : ByteArray) ++ out)) (fun k => ?_) (Ev.now _)⟩
  simp only [laws_markText.l0]
  rw [if_neg (by omega), if_pos (by omega)]
 | succ m ih =>
  intro n out hn ho hb
  by_cases h0 : n = 0
  ·subst h0
   refine ⟨(⟨#[109]⟩ : ByteArray) ++ out, Ev.step (f := fun _ => some ((⟨#[109]⟩ : ByteArray) ++ out)) (fun k => ?_) (Ev.now _)⟩
   simp only [laws_markText.l0]
   rw [if_neg (by omega), if_pos (by omega)]
  ·have hs : ∀ x : Int, (strOfNums [x]).size = 1 := fun x => by rw [strOfNums_size]; rfl
   obtain ⟨t, ht⟩ := ih (n / 10) (strOfNums [(wrap64 (48 + (Int.tmod (n : Int) 10))) % 256] ++ out) (by rw [Nat.pow_succ] at hn; omega) (by rw [ByteArray.size_append, hs]; omega) (by omega)
   refine ⟨t, Ev.step (f := fun k => laws_markText.l0 k ((n / 10 : Nat) : Int) (strOfNums [(wrap64 (48 + (Int.tmod (n : Int) 10))) % 256] ++ out)) (fun k => ?_) ht⟩
   simp only [laws_markText.l0]
   rw [if_pos (by omega)]
   simp only [Option.bind_some]
   rw [if_pos (by rw [hs]; omega), Int.tdiv_eq_ediv_of_nonneg (by omega), w64 (x := (n : Int) / 10) (by omega) (by omega)]
   rfl
theorem mark_any (n : Nat) (hn : n ≤ 1000000000000000000) : ∃ t, Ev (fun k => laws_markText.f k (n : Int)) t := by
 by_cases h0 : n = 0
 ·subst h0
  exact ⟨_, Ev.congr (f := fun _ => some (⟨#[109, 48]⟩ : ByteArray)) (fun k => by simp [laws_markText.f]) (Ev.now _)⟩
 ·obtain ⟨t, ht⟩ := mark_go 19 n ⟨#[]⟩ (by omega) (by simp [ByteArray.size]) hn
  exact ⟨t, Ev.congr (fun k => by simp only [laws_markText.f]; rw [if_neg (by omega)]) ht⟩
noncomputable def mk_ (n : Nat) : ByteArray := if h : n ≤ 1000000000000000000 then Classical.choose (mark_any n h) else ⟨#[]⟩
theorem markT (n : Nat) (hn : n ≤ 1000000000000000000) : Ev (fun k => laws_markText.f k (n : Int)) (mk_ n) := by
 unfold mk_
 rw [dif_pos hn]
 exact Classical.choose_spec (mark_any n hn)
noncomputable def marks (a n : Nat) : List ByteArray := (List.range n).map fun i => mk_ (a + i)
theorem marks_length (a n : Nat) : (marks a n).length = n := by simp [marks]
theorem marks_at (a n i : Nat) (h : i < n) : (marks a n)[i]'(by rw [marks_length]; exact h) = mk_ (a + i) := by simp [marks]
theorem markS_loop (l : List ByteArray) (a : Nat) (hl : l.length ≤ 1000000000) (ha : a ≤ 1000000000) : ∀ (d i : Nat), i + d = l.length → Ev (fun k => laws_markStringS.l0 k ((marks a i) ++ l.drop i) ((a + i : Nat) : Int) (i : Int)) (((a + l.length : Nat) : Int), marks a l.length) := by
 intro d
 induction d with
 | zero =>
  intro i hi
  have hi' : i = l.length := by omega
  subst hi'
  refine Ev.step (f := fun _ => some (((a + l.length : Nat) : Int), marks a l.length)) (fun k => ?_) (Ev.now _)
  simp only [laws_markStringS.l0]
  rw [if_neg (by simp [marks_length]), List.drop_length, List.append_nil]
 | succ d ih =>
  intro i hi
  have hlt : i < l.length := by omega
  refine Ev.step (f := fun k => (laws_markText.f k ((a + i : Nat) : Int)).bind fun t => laws_markStringS.l0 k (((marks a i) ++ l.drop i).set i t) ((a + (i + 1) : Nat) : Int) ((i + 1 : Nat) : Int)) (fun k => ?_) ?_
  ·simp only [laws_markStringS.l0]
   rw [if_pos (by simp only [List.length_append, marks_length, List.length_drop]; omega)]
   congr 1
   funext t
   rw [if_pos (by omega), w64 (x := ((a + i : Nat) : Int) + 1) (by omega) (by omega), w64 (x := (i : Int) + 1) (by omega) (by omega)]
   rfl
  ·refine ev_bind (markT (a + i) (by omega)) ?_
   have hset : ((marks a i) ++ l.drop i).set i (mk_ (a + i)) = marks a (i + 1) ++ l.drop (i + 1) := by
    rw [List.set_append_right _ _ (by rw [marks_length]; omega), marks_length, Nat.sub_self, List.drop_eq_getElem_cons hlt, List.set_cons_zero]
    simp [marks, List.range_succ]
   rw [hset]
   exact ih (i + 1) (by omega)
theorem markS (l : List ByteArray) (a : Nat) (hl : l.length ≤ 1000000000) (ha : a ≤ 1000000000) : Ev (fun k => laws_markStringS.f k l (a : Int)) (((a + l.length : Nat) : Int), marks a l.length) := by
 have := markS_loop l a hl ha l.length 0 (by omega)
 simp only [List.drop_zero, marks, List.range_zero, List.map_nil, List.nil_append, Nat.add_zero] at this
 exact this
theorem heldS (n a : Nat) (hl : n ≤ 1000000000) (ha : a ≤ 1000000000) : Ev (fun k => laws_heldStringS.f k (marks a n) (a : Int)) ((a + n : Nat) : Int) := by
 have key : ∀ (d i : Nat), i + d = n → Ev (fun k => laws_heldStringS.l0 k (marks a n) ((a + i : Nat) : Int) (i : Int)) ((a + n : Nat) : Int) := by
  intro d
  induction d with
  | zero =>
   intro i hi
   refine Ev.step (f := fun _ => some ((a + n : Nat) : Int)) (fun k => ?_) (Ev.now _)
   simp only [laws_heldStringS.l0]
   rw [if_neg (by rw [marks_length]; omega), show i = n by omega]
  | succ d ih =>
   intro i hi
   have hlt : i < (marks a n).length := by rw [marks_length]; omega
   refine Ev.step (f := fun k => (laws_markText.f k ((a + i : Nat) : Int)).bind fun t => if (mk_ (a + i)).toList = t.toList then laws_heldStringS.l0 k (marks a n) ((a + (i + 1) : Nat) : Int) ((i + 1 : Nat) : Int) else some (-1)) (fun k => ?_) ?_
   ·simp only [laws_heldStringS.l0]
    rw [if_pos (by rw [marks_length]; omega), if_pos (by omega), rdOf_at _ _ _ hlt, marks_at _ _ _ (by omega), w64 (x := ((a + i : Nat) : Int) + 1) (by omega) (by omega), w64 (x := (i : Int) + 1) (by omega) (by omega)]
    rfl
   ·exact ev_bind (markT (a + i) (by omega)) (ev_pos rfl (ih (i + 1) (by omega)))
 exact key n 0 (by omega)
end Go.Proofs.Ytpbepgffbcfaoaa.PL
end
section
namespace Go.Proofs.Ytpbepgffbcfaoaa.PS
open Go.RowKit Go.Proofs.YtpbepgffbcfaoaaW.PrintWords Go.Proofs.YtpbepgffbcfaoaaW.PrintLast Go.Proofs.YtpbepgffbcfaoaaW.PrintMore Go.Proofs.Ytpbepgffbcfaoaa.PB Go.Proofs.Ytpbepgffbcfaoaa.PD Go.Proofs.Ytpbepgffbcfaoaa.PK Go.Proofs.Ytpbepgffbcfaoaa.PL Go.Proofs.Ytpbepgffbcfaoaa.PA
set_option linter.unusedVariables false
theorem kk : Kd_ 107 := ⟨by decide, by decide⟩
end Go.Proofs.Ytpbepgffbcfaoaa.PS
end
section
namespace Go.Proofs.Ytpbepgffbcfaoaa.PT

end Go.Proofs.Ytpbepgffbcfaoaa.PT
end
section
namespace Go.Proofs.Ytpbepgffbcfaoaa.PU
open Go.RowKit Go.Proofs.YtpbepgffbcfaoaaW.PrintWords Go.Proofs.YtpbepgffbcfaoaaW.PrintLast Go.Proofs.YtpbepgffbcfaoaaW.PrintMore Go.Proofs.Ytpbepgffbcfaoaa.PB Go.Proofs.Ytpbepgffbcfaoaa.PD Go.Proofs.Ytpbepgffbcfaoaa.PK Go.Proofs.Ytpbepgffbcfaoaa.PL Go.Proofs.Ytpbepgffbcfaoaa.PS Go.Proofs.Ytpbepgffbcfaoaa.PT Go.Proofs.Ytpbepgffbcfaoaa.PA
set_option linter.unusedVariables false
theorem idx_any {α : Type} (l : List α) (rf : List α → Int → α) (hrf : ∀ i (h : i < l.length), rf l (i : Int) = l[i]) (L0 : Nat → List α → Int → Int → Option Int) (cl : Nat → α → Option Bool) (p : α → Bool)
  (hstep : ∀ k n i, L0 (k + 1) l n i = if i < n then (if 0 ≤ i then (if i < (l.length : Int) then ((cl k (rf l i)).bind fun t => if t = true then some i else L0 k l n (wrap64 (i + 1))) else none) else none) else some (-1))
  (hp : ∀ x ∈ l, Ev (fun k => cl k x) (p x)) (hl : l.length ≤ 4000000000000000000) : ∃ r, Ev (fun k => L0 k l (l.length : Int) 0) r ∧ decide (r ≥ 0) = l.any p := by
 have key : ∀ (d i : Nat), i + d = l.length → ∃ r, Ev (fun k => L0 k l (l.length : Int) (i : Int)) r ∧ decide (r ≥ 0) = (l.drop i).any p := by
  intro d
  induction d with
  | zero =>
   intro i hi
   refine ⟨-1, Ev.step (f := fun _ => some (-1)) (fun k => ?_) (Ev.now _), ?_⟩
   ·rw [hstep, if_neg (by omega)]
   ·rw [List.drop_eq_nil_of_le (by omega)]; rfl
  | succ d ih =>
   intro i hi
   have hlt : i < l.length := by omega
   have hpx := hp _ (List.getElem_mem hlt)
   rw [List.drop_eq_getElem_cons hlt, List.any_cons]
   have st : ∀ k, L0 (k + 1) l (l.length : Int) (i : Int) = (cl k l[i]).bind fun t => if t = true then some (i : Int) else L0 k l (l.length : Int) ((i + 1 : Nat) : Int) := by
    intro k
    rw [hstep, if_pos (by omega), if_pos (by omega), if_pos (by omega), hrf i hlt, w64 (x := (i : Int) + 1) (by omega) (by omega)]
    rfl
   cases hb : p l[i] with
   | true =>
    rw [hb] at hpx
    refine ⟨(i : Int), Ev.step (f := fun k => (cl k l[i]).bind fun t => if t = true then some (i : Int) else L0 k l (l.length : Int) ((i + 1 : Nat) : Int)) st (ev_bind hpx (ev_pos rfl (Ev.now _))), ?_⟩
    simp only [Bool.true_or]
    exact decide_eq_true (by omega)
   | false =>
    rw [hb] at hpx
    obtain ⟨r, hr, e⟩ := ih (i + 1) (by omega)
    refine ⟨r, Ev.step (f := fun k => (cl k l[i]).bind fun t => if t = true then some (i : Int) else L0 k l (l.length : Int) ((i + 1 : Nat) : Int)) st (ev_bind hpx (ev_neg (by simp) hr)), ?_⟩
    rw [Bool.false_or]; exact e
 obtain ⟨r, hr, e⟩ := key l.length 0 (by omega)
 exact ⟨r, hr, by rw [e, List.drop_zero]⟩
theorem isDigI (s : ByteArray) : impl_isDigest.f s = some (decide (s.size = 4)) := by
 unfold impl_isDigest.f
 refine congrArg some ?_
 by_cases h : s.size = 4
 ·rw [decide_eq_true h, h]; rfl
 ·rw [decide_eq_false h]; exact beq_eq_false_iff_ne.mpr (by omega)
end Go.Proofs.Ytpbepgffbcfaoaa.PU
end
section
namespace Go.Proofs.Ytpbepgffbcfaoaa.PG
open Go.RowKit Go.Proofs.YtpbepgffbcfaoaaW.PrintWords Go.Proofs.YtpbepgffbcfaoaaW.PrintLast Go.Proofs.YtpbepgffbcfaoaaW.PrintMore Go.Proofs.Ytpbepgffbcfaoaa.PB Go.Proofs.Ytpbepgffbcfaoaa.PL
set_option linter.unusedVariables false
theorem loop_up {β : Type} {r : β} (n : Nat) (S : Nat → Nat → Option β) (hend : Ev (S n) r) (hround : ∀ i, i < n → Ev (S (i + 1)) r → Ev (S i) r) : Ev (S 0) r := by
 have key : ∀ d i, i + d = n → Ev (S i) r := by
  intro d
  induction d with
  | zero => intro i hi; rw [show i = n by omega]; exact hend
  | succ d ih => intro i hi; exact hround i (by omega) (ih (i + 1) (by omega))
 exact key n 0 (by omega)
def wsum {α : Type} (wt : α → Nat) : List α → Nat
 | [] => 0
 | x :: l => wt x + wsum wt l
theorem wsum_mem {α : Type} (wt : α → Nat) (l : List α) : ∀ x ∈ l, wt x ≤ wsum wt l := by
 induction l with
 | nil => intro s h; cases h
 | cons a l ih =>
  intro s h
  simp only [wsum]
  rcases List.mem_cons.mp h with rfl | h
  ·omega
  ·have := ih s h; omega
def left (R : Int) (w : Nat) : Int := if (w : Int) ≤ R then R - w else -1
theorem left_yes {R : Int} {w : Nat} (h : (w : Int) ≤ R) : left R w = R - w := if_pos h
theorem left_no {R : Int} {w : Nat} (h : ¬ (w : Int) ≤ R) : left R w = -1 := if_neg h
theorem left_add {R : Int} {a b : Nat} (h : (a : Int) ≤ R) : left (R - a) b = left R (a + b) := by
 unfold left
 by_cases hb : (b : Int) ≤ R - a
 ·rw [if_pos hb, if_pos (by omega)]; omega
 ·rw [if_neg hb, if_neg (by omega)]
theorem to_list {α β : Type} (f : α → β) (z : β) (l : List α) (L0 : Nat → List α → List β → Int → Option (List β)) (hl : l.length ≤ 2000000)
  (hend : ∀ k out, L0 (k + 1) l out (l.length : Int) = some out)
  (hround : ∀ i (h : i < l.length) (out : List β), out.length = l.length → ∀ r, Ev (fun k => L0 k l (out.set i (f l[i])) ((i + 1 : Nat) : Int)) r → Ev (fun k => L0 k l out (i : Int)) r) :
  Ev (fun k => L0 k l (List.replicate l.length z) 0) (l.map f) := by
 have h := loop_up (r := l.map f) l.length (fun i k => L0 k l (filled f z l i) (i : Int)) ?_ ?_
 ·rw [← filled_zero f z l]; exact h
 ·refine Ev.step (f := fun _ => some (l.map f)) (fun k => ?_) (Ev.now _)
  rw [hend, filled_all]
 ·intro i hi h
  refine hround i hi _ (filled_length _ _ _ _ (by omega)) _ ?_
  rw [filled_set f z l i hi]
  exact h
theorem eq_list {α : Type} (l : List α) (L0 : Nat → List α → List α → Int → Option Bool) (F : Nat → List α → List α → Option Bool) (hend : ∀ k, L0 (k + 1) l l (l.length : Int) = some true)
  (hF : ∀ k, F k l l = L0 k l l 0) (hround : ∀ i (h : i < l.length), Ev (fun k => L0 k l l ((i + 1 : Nat) : Int)) true → Ev (fun k => L0 k l l (i : Int)) true) : Ev (fun k => F k l l) true := by
 refine Ev.congr (f := fun k => L0 k l l ((0 : Nat) : Int)) (fun k => hF k) ?_
 exact loop_up l.length (fun i k => L0 k l l (i : Int)) (Ev.step (f := fun _ => some true) (fun k => hend k) (Ev.now _)) (fun i hi h => hround i hi h)
end Go.Proofs.Ytpbepgffbcfaoaa.PG
end
section
namespace Go.Proofs.Ytpbepgffbcfaoaa.PQ
open Go.RowKit Go.Proofs.YtpbepgffbcfaoaaW.PrintWords Go.Proofs.YtpbepgffbcfaoaaW.PrintLast Go.Proofs.YtpbepgffbcfaoaaW.PrintMore Go.Proofs.Ytpbepgffbcfaoaa.PB Go.Proofs.Ytpbepgffbcfaoaa.PD Go.Proofs.Ytpbepgffbcfaoaa.PK Go.Proofs.Ytpbepgffbcfaoaa.PL Go.Proofs.Ytpbepgffbcfaoaa.PS Go.Proofs.Ytpbepgffbcfaoaa.PT Go.Proofs.Ytpbepgffbcfaoaa.PU Go.Proofs.Ytpbepgffbcfaoaa.PG Go.Proofs.Ytpbepgffbcfaoaa.PA
set_option linter.unusedVariables false
def rowFrom : ByteArray → List ByteArray → ByteArray
 | acc, [] => acc
 | acc, s :: l => rowFrom (acc ++ (one (s.size : Int) ++ s)) l
def rowM (l : List ByteArray) : ByteArray := rowFrom ⟨#[]⟩ l
theorem rowFrom_size (l : List ByteArray) : ∀ acc, (rowFrom acc l).size = acc.size + total l := by
 induction l with
 | nil => intro acc; simp [rowFrom, total, szL]
 | cons s l ih =>
  intro acc
  have e : total (s :: l) = 1 + s.size + total l := by simp only [total, szL, List.length_cons]; omega
  rw [show rowFrom acc (s :: l) = rowFrom (acc ++ (one (s.size : Int) ++ s)) l from rfl, ih, app_size, app_size, one_size, e]; omega
theorem rowM_size (l : List ByteArray) : (rowM l).size = total l := by
 unfold rowM; rw [rowFrom_size]; exact Nat.zero_add _
theorem rowS (l : List ByteArray) (hl : total l ≤ 1000000000) : Ev (fun k => spec_l1Row.f k l) (rowM l) := by
 have hlen : l.length ≤ 1000000000 := by unfold total at hl; omega
 have key : ∀ (d i : Nat) (acc : ByteArray), i + d = l.length → acc.size + total (l.drop i) ≤ 2000000000 → Ev (fun k => spec_l1Row.l0 k acc l (l.length : Int) (i : Int)) (rowFrom acc (l.drop i)) := by
  intro d
  induction d with
  | zero =>
   intro i acc hi _
   rw [List.drop_eq_nil_of_le (by omega)]
   refine Ev.step (f := fun _ => some acc) (fun k => ?_) (Ev.now _)
   simp only [spec_l1Row.l0]; rw [if_neg (by omega)]
  | succ d ih =>
   intro i acc hi ha
   have hlt : i < l.length := by omega
   rw [List.drop_eq_getElem_cons hlt] at ha ⊢
   have e : total (l[i] :: l.drop (i + 1)) = 1 + l[i].size + total (l.drop (i + 1)) := by simp only [total, szL, List.length_cons]; omega
   rw [e] at ha
   refine Ev.step (f := fun k => spec_l1Row.l0 k (acc ++ (one (l[i].size : Int) ++ l[i])) l (l.length : Int) ((i + 1 : Nat) : Int)) (fun k => ?_) ?_
   ·simp only [spec_l1Row.l0]
    rw [if_pos (by omega), if_pos (by omega), if_pos (by omega), rdOf_at _ _ _ hlt, w64 (x := (i : Int) + 1) (by omega) (by omega)]
    have e1 : (strOfNums [(l[i].size : Int) % 256]).size = 1 := by rw [strOfNums_size]; rfl
    simp only [Option.bind_some]
    rw [if_pos (by omega), if_pos (by rw [app_size]; omega)]
    rfl
   ·exact ih (i + 1) _ (by omega) (by rw [app_size, app_size, one_size]; omega)
 exact key l.length 0 ⟨#[]⟩ (by omega) (by rw [List.drop_zero]; show 0 + total l ≤ _; omega)
end Go.Proofs.Ytpbepgffbcfaoaa.PQ
end
section
namespace Go.Proofs.Ytpbepgffbcfaoaa.PV

end Go.Proofs.Ytpbepgffbcfaoaa.PV
end
section
namespace Go.Proofs.Ytpbepgffbcfaoaa.PW
open Go.RowKit Go.Proofs.YtpbepgffbcfaoaaW.PrintWords Go.Proofs.YtpbepgffbcfaoaaW.PrintLast Go.Proofs.YtpbepgffbcfaoaaW.PrintMore Go.Proofs.Ytpbepgffbcfaoaa.PB Go.Proofs.Ytpbepgffbcfaoaa.PD Go.Proofs.Ytpbepgffbcfaoaa.PK Go.Proofs.Ytpbepgffbcfaoaa.PL Go.Proofs.Ytpbepgffbcfaoaa.PS Go.Proofs.Ytpbepgffbcfaoaa.PT Go.Proofs.Ytpbepgffbcfaoaa.PU Go.Proofs.Ytpbepgffbcfaoaa.PG Go.Proofs.Ytpbepgffbcfaoaa.PQ Go.Proofs.Ytpbepgffbcfaoaa.PV Go.Proofs.Ytpbepgffbcfaoaa.PA
set_option linter.unusedVariables false
noncomputable def ch (P : Prop) : Bool := @decide P (Classical.propDecidable P)
theorem ch_yes {P : Prop} (h : P) : ch P = true := @decide_eq_true P (Classical.propDecidable P) h
theorem ch_no {P : Prop} (h : ¬ P) : ch P = false := @decide_eq_false P (Classical.propDecidable P) h
theorem ch_true {P : Prop} (h : ch P = true) : P := @of_decide_eq_true P (Classical.propDecidable P) h
theorem loop_yes {β : Type} (n : Nat) (S : Nat → Nat → Option β) (Q : Nat → Prop) (b : β) (hround : ∀ r i, i < n → Q i → Ev (S (i + 1)) r → Ev (S i) r) (hend : Ev (S n) b) (hq : ∀ i, i < n → Q i) : Ev (S 0) b :=
 loop_up n S hend (fun i hi h => hround b i hi (hq i hi) h)
theorem loop_no {β : Type} (n : Nat) (S : Nat → Nat → Option β) (Q : Nat → Prop) (no : β) (hround : ∀ r i, i < n → Q i → Ev (S (i + 1)) r → Ev (S i) r) (hno : ∀ i, i < n → ¬ Q i → Ev (S i) no) (hq : ¬ ∀ i, i < n → Q i) : Ev (S 0) no := by
 refine Classical.byContradiction fun hc => hq ?_
 have key : ∀ i, i ≤ n → (¬ Ev (S i) no) ∧ ∀ j, j < i → Q j := by
  intro i
  induction i with
  | zero => intro _; exact ⟨hc, fun j hj => absurd hj (Nat.not_lt_zero j)⟩
  | succ i ih =>
   intro hi
   obtain ⟨h1, h2⟩ := ih (by omega)
   have hQ : Q i := Classical.byContradiction fun h => h1 (hno i (by omega) h)
   refine ⟨fun h => h1 (hround no i (by omega) hQ h), fun j hj => ?_⟩
   by_cases e : j = i
   ·subst e; exact hQ
   ·exact h2 j (by omega)
 exact (key n (Nat.le_refl n)).2
theorem has_str (l : List ByteArray) (L0 : Nat → List ByteArray → Int → Int → Option Int) (cl : Nat → ByteArray → Option Bool) (p : ByteArray → Bool)
  (hstep : ∀ k n i, L0 (k + 1) l n i = if i < n then (if 0 ≤ i then (if i < (l.length : Int) then ((cl k (rdOf ByteArray.empty l i)).bind fun t => if t = true then some i else L0 k l n (wrap64 (i + 1))) else none) else none) else some (-1))
  (hp : ∀ x ∈ l, Ev (fun k => cl k x) (p x)) (hl : l.length ≤ 4000000000000000000) : Ev (fun k => (L0 k l (l.length : Int) 0).bind fun t => some (decide (t ≥ 0))) (l.any p) := by
 obtain ⟨r, hr, e⟩ := idx_any l (fun l i => rdOf ByteArray.empty l i) (fun i h => rdOf_at _ l i h) L0 cl p hstep hp hl
 rw [← e]
 exact ev_bind (f := fun _ t => some (decide (t ≥ 0))) hr (Ev.now _)
theorem not_any {α : Type} (p : α → Bool) : ∀ l : List α, (l.any fun s => !p s) = !(l.all p) := by
 intro l
 induction l with
 | nil => rfl
 | cons x l ih => simp only [List.any_cons, List.all_cons, Bool.not_and, ih]
theorem all_at (l : List ByteArray) (p : ByteArray → Bool) : l.all p = true ↔ ∀ i, i < l.length → p (rdOf ByteArray.empty l (i : Int)) = true := by
 rw [List.all_eq_true]
 constructor
 ·intro h i hi
  rw [rdOf_at _ _ _ hi]
  exact h _ (List.getElem_mem hi)
 ·intro h x hx
  obtain ⟨i, hi, e⟩ := List.getElem_of_mem hx
  have := h i hi
  rw [rdOf_at _ _ _ hi, e] at this
  exact this
abbrev tx (l : List ByteArray) (i : Nat) : ByteArray := rdOf ByteArray.empty l (i : Int)
end Go.Proofs.Ytpbepgffbcfaoaa.PW
end
section
namespace Go.Proofs.Ytpbepgffbcfaoaa.PX
open Go.RowKit Go.Proofs.YtpbepgffbcfaoaaW.PrintWords Go.Proofs.YtpbepgffbcfaoaaW.PrintLast Go.Proofs.YtpbepgffbcfaoaaW.PrintMore Go.Proofs.Ytpbepgffbcfaoaa.PB Go.Proofs.Ytpbepgffbcfaoaa.PD Go.Proofs.Ytpbepgffbcfaoaa.PK Go.Proofs.Ytpbepgffbcfaoaa.PL Go.Proofs.Ytpbepgffbcfaoaa.PS Go.Proofs.Ytpbepgffbcfaoaa.PT Go.Proofs.Ytpbepgffbcfaoaa.PU Go.Proofs.Ytpbepgffbcfaoaa.PG Go.Proofs.Ytpbepgffbcfaoaa.PQ Go.Proofs.Ytpbepgffbcfaoaa.PW Go.Proofs.Ytpbepgffbcfaoaa.PA
set_option linter.unusedVariables false
def itemB (s : ByteArray) : Bool := decide ((s.size : Int) ≤ 60)
def blockB (a b : ByteArray) (l : List ByteArray) : Bool := decide (a.size = 4) && (decide (b.size = 4) && (decide (l.length ≤ 6) && l.all itemB))
theorem goodBlockS (a b : ByteArray) (l : List ByteArray) (hl : l.length ≤ 2000000) : Ev (fun k => spec_GoodBlock.f k a b l) (blockB a b l) := by
 have round : ∀ (r : Bool) i, i < l.length → itemB (tx l i) = true → Ev (fun k => spec_GoodBlock.l0 k l (l.length : Int) ((i + 1 : Nat) : Int) a b l) r → Ev (fun k => spec_GoodBlock.l0 k l (l.length : Int) (i : Int) a b l) r := by
  intro r i hi hq h
  have hq' : ((rdOf ByteArray.empty l (i : Int)).size : Int) ≤ 60 := of_decide_eq_true hq
  refine Ev.step (f := fun k => spec_GoodBlock.l0 k l (l.length : Int) ((i + 1 : Nat) : Int) a b l) (fun k => ?_) h
  simp only [spec_GoodBlock.l0]
  rw [if_pos (by omega), if_pos (by omega), if_pos (by omega), if_neg (by omega), w64 (x := (i : Int) + 1) (by omega) (by omega)]
  rfl
 by_cases h : ∀ i, i < l.length → itemB (tx l i) = true
 ·have ha : l.all itemB = true := (all_at l _).2 h
  refine loop_yes l.length (fun i k => spec_GoodBlock.l0 k l (l.length : Int) (i : Int) a b l) _ _ round ?_ h
  refine Ev.step (f := fun k => if (a.size : Int) = 4 then (if (b.size : Int) = 4 then (some (decide ((l.length : Int) ≤ 6))) else (some false)) else (some false)) (fun k => by simp only [spec_GoodBlock.l0]; rw [if_neg (by omega)]) ?_
  unfold blockB
  rw [ha, Bool.and_true]
  by_cases h1 : a.size = 4
  ·refine ev_pos (by omega) ?_
   rw [decide_eq_true h1, Bool.true_and]
   by_cases h2 : b.size = 4
   ·refine ev_pos (by omega) ?_
    rw [decide_eq_true h2, Bool.true_and]
    by_cases h3 : l.length ≤ 6
    ·rw [decide_eq_true h3]; exact ev_eq (Ev.now _) (decide_eq_true (by omega))
    ·rw [decide_eq_false h3]; exact ev_eq (Ev.now _) (decide_eq_false (by omega))
   ·rw [decide_eq_false h2]; exact ev_neg (by omega) (Ev.now _)
  ·rw [decide_eq_false h1]; exact ev_neg (by omega) (Ev.now _)
 ·have ha : l.all itemB = false := by
   cases e : l.all itemB with
   | false => rfl
   | true => exact absurd ((all_at l _).1 e) h
  refine ev_eq (loop_no l.length (fun i k => spec_GoodBlock.l0 k l (l.length : Int) (i : Int) a b l) _ false round (fun i hi hq => ?_) h) ?_
  ·have hq' : ¬ ((rdOf ByteArray.empty l (i : Int)).size : Int) ≤ 60 := fun h' => hq (decide_eq_true h')
   refine Ev.step (f := fun _ => some false) (fun k => ?_) (Ev.now _)
   simp only [spec_GoodBlock.l0]
   rw [if_pos (by omega), if_pos (by omega), if_pos (by omega), if_pos (by omega)]
  ·unfold blockB; rw [ha]; simp
theorem goodBlockI (a b : ByteArray) (l : List ByteArray) (hl : l.length ≤ 2000000) : Ev (fun k => impl_GoodBlock.f k a b l) (blockB a b l) := by
 unfold impl_GoodBlock.f blockB
 refine ev_const (isDigI a) ?_
 by_cases h1 : a.size = 4
 ·refine ev_pos (decide_eq_true h1) (ev_const (isDigI b) ?_)
  rw [decide_eq_true h1, Bool.true_and]
  by_cases h2 : b.size = 4
  ·refine ev_pos (decide_eq_true h2) ?_
   rw [decide_eq_true h2, Bool.true_and]
   by_cases h3 : l.length ≤ 6
   ·refine ev_pos (by omega) ?_
    rw [decide_eq_true h3, Bool.true_and]
    have e : ∀ s : ByteArray, decide ((s.size : Int) > 60) = !itemB s := by
     intro s
     unfold itemB
     by_cases hs : (s.size : Int) ≤ 60
     ·rw [decide_eq_true hs]; exact decide_eq_false (by omega)
     ·rw [decide_eq_false hs]; exact decide_eq_true (by omega)
    have hc := has_str l slices_IndexFunc_impl_GoodBlock_1.l0 (fun _ s => impl_GoodBlock_1.f s) (fun s => !itemB s) (fun k n i => rfl) (fun x _ => ev_of_eq (by unfold impl_GoodBlock_1.f; rw [e])) (by omega)
    rw [not_any] at hc
    refine ev_eq (ev_bind (f := fun _ t => some (!t)) (g := fun k => slices_ContainsFunc_impl_GoodBlock_1.f k l) hc (Ev.now _)) ?_
    rw [Bool.not_not]
   ·rw [decide_eq_false h3]; exact ev_neg (by omega) (Ev.now _)
  ·rw [decide_eq_false h2]; exact ev_neg (by simp) (Ev.now _)
 ·rw [decide_eq_false h1]; exact ev_neg (by simp) (Ev.now _)
theorem app_assoc (a b c : ByteArray) : a ++ b ++ c = a ++ (b ++ c) := ByteArray.append_assoc
theorem rowFrom_app (l : List ByteArray) : ∀ acc, rowFrom acc l = acc ++ rowM l := by
 induction l with
 | nil => intro acc; exact (ByteArray.append_empty (b := acc)).symm
 | cons s l ih =>
  intro acc
  rw [show rowFrom acc (s :: l) = rowFrom (acc ++ (one (s.size : Int) ++ s)) l from rfl, ih, show rowM (s :: l) = rowFrom (⟨#[]⟩ ++ (one (s.size : Int) ++ s)) l from rfl, ih]
  rw [show (⟨#[]⟩ : ByteArray) ++ (one (s.size : Int) ++ s) = one (s.size : Int) ++ s from ByteArray.empty_append, app_assoc]
theorem total_items (l : List ByteArray) (h : l.all itemB = true) : total l ≤ 61 * l.length := by
 induction l with
 | nil => simp [total, szL]
 | cons s l ih =>
  simp only [List.all_cons, Bool.and_eq_true] at h
  have h1 : (s.size : Int) ≤ 60 := of_decide_eq_true h.1
  have := ih h.2
  simp only [total, szL, List.length_cons] at this ⊢
  omega
def blockM (a b : ByteArray) (l : List ByteArray) : ByteArray := a ++ b ++ rowM l
theorem blockB_facts {a b : ByteArray} {l : List ByteArray} (h : blockB a b l = true) : a.size = 4 ∧ b.size = 4 ∧ l.length ≤ 6 ∧ total l ≤ 366 := by
 unfold blockB at h
 simp only [Bool.and_eq_true, decide_eq_true_eq] at h
 have := total_items l h.2.2.2
 exact ⟨h.1, h.2.1, h.2.2.1, by omega⟩
theorem blockM_size {a b : ByteArray} {l : List ByteArray} (h : blockB a b l = true) : (blockM a b l).size ≤ 374 := by
 obtain ⟨h1, h2, h3, h4⟩ := blockB_facts h
 unfold blockM
 rw [app_size, app_size, rowM_size]; omega
theorem bytesBS (a b : ByteArray) (l : List ByteArray) (h : blockB a b l = true) : Ev (fun k => spec_l16Bytes.f k a b l) (blockM a b l) := by
 obtain ⟨h1, h2, h3, h4⟩ := blockB_facts h
 exact ev_pos (by omega) (ev_bind (rowS l (by omega)) (ev_pos (by rw [app_size, rowM_size]; omega) (Ev.now _)))
theorem bytesBI (a b : ByteArray) (l : List ByteArray) (h : blockB a b l = true) : Ev (fun k => impl_Block_bytes.f k a b l) (blockM a b l) := by
 obtain ⟨h1, h2, h3, h4⟩ := blockB_facts h
 refine ev_pos (by omega) ?_
 have key : ∀ (d i : Nat) (acc : ByteArray), i + d = l.length → acc.size + total (l.drop i) ≤ 2000 → Ev (fun k => impl_Block_bytes.l0 k acc l (l.length : Int) (i : Int)) (rowFrom acc (l.drop i)) := by
  intro d
  induction d with
  | zero =>
   intro i acc hi _
   rw [List.drop_eq_nil_of_le (by omega)]
   refine Ev.step (f := fun _ => some acc) (fun k => ?_) (Ev.now _)
   simp only [impl_Block_bytes.l0]; rw [if_neg (by omega)]
  | succ d ih =>
   intro i acc hi ha
   have hlt : i < l.length := by omega
   rw [List.drop_eq_getElem_cons hlt] at ha ⊢
   have e : total (l[i] :: l.drop (i + 1)) = 1 + l[i].size + total (l.drop (i + 1)) := by simp only [total, szL, List.length_cons]; omega
   rw [e] at ha
   refine Ev.step (f := fun k => impl_Block_bytes.l0 k (acc ++ (one (l[i].size : Int) ++ l[i])) l (l.length : Int) ((i + 1 : Nat) : Int)) (fun k => ?_) ?_
   ·simp only [impl_Block_bytes.l0]
    rw [if_pos (by omega), if_pos (by omega), if_pos (by omega), rdOf_at _ _ _ hlt, oneI, w64 (x := (i : Int) + 1) (by omega) (by omega)]
    simp only [Option.bind_some]
    rw [if_pos (by rw [one_size]; omega), if_pos (by rw [app_size, one_size]; omega)]
    rfl
   ·exact ih (i + 1) _ (by omega) (by rw [app_size, app_size, one_size]; omega)
 have := key l.length 0 (a ++ b) (by omega) (by rw [List.drop_zero, app_size]; omega)
 rw [List.drop_zero, rowFrom_app] at this
 exact this
theorem k104 : Kd_ 104 := ⟨by decide, by decide⟩
theorem digBS (a b : ByteArray) (l : List ByteArray) (h : blockB a b l = true) : Ev (fun k => spec_l16Digest.f k a b l) (dig 104 (blockM a b l)) := by
 have := blockM_size h
 exact ev_bind (bytesBS a b l h) (ev_bind (digS 104 k104 _ (by omega)) (Ev.now _))
theorem digBI (a b : ByteArray) (l : List ByteArray) (h : blockB a b l = true) : Ev (fun k => impl_Block_digest.f k a b l) (dig 104 (blockM a b l)) := by
 have := blockM_size h
 exact ev_bind (bytesBI a b l h) (ev_bind (digI 104 k104 _ (by omega)) (Ev.now _))
theorem szBlock (a b : ByteArray) (l : List ByteArray) (ha : a.size ≤ 9223372036854775807) (hb : b.size ≤ 9223372036854775807) (hf : Fit l) (R : Int) (h0 : 0 ≤ R) (h1 : R ≤ 1000000000) :
  Ev (fun k => laws_szBlock.f k a b l R) (left R (a.size + b.size + total l)) := by
 unfold laws_szBlock.f
 rw [w64 (x := R - (a.size : Int)) (by omega) (by omega)]
 by_cases c1 : R - (a.size : Int) < 0
 ·exact ev_pos c1 (ev_eq (Ev.now _) (left_no (by omega)).symm)
 refine ev_neg c1 ?_
 rw [w64 (x := R - (a.size : Int) - (b.size : Int)) (by omega) (by omega)]
 by_cases c2 : R - (a.size : Int) - (b.size : Int) < 0
 ·exact ev_pos c2 (ev_eq (Ev.now _) (left_no (by omega)).symm)
 refine ev_neg c2 (ev_bind (szS l hf _ (by omega) (by omega)) ?_)
 by_cases c3 : (total l : Int) ≤ R - (a.size : Int) - (b.size : Int)
 ·rw [if_pos c3]
  refine ev_neg (by omega) (ev_eq (Ev.now _) ?_)
  rw [left_yes (by omega)]; omega
 ·rw [if_neg c3]
  exact ev_pos (by omega) (ev_eq (Ev.now _) (left_no (by omega)).symm)
theorem toBlock (a b : ByteArray) (l : List ByteArray) (hl : l.length ≤ 2000000) : Ev (fun k => laws_toBlock.f k a b l) (a, b, l) := ev_bind (toS l hl) (Ev.now _)
theorem eqBlock (a b : ByteArray) (l : List ByteArray) (hl : l.length ≤ 2000000) : Ev (fun k => laws_eqBlock.f k a b l a b l) true :=
 ev_pos rfl (ev_pos rfl (ev_bind (eqS_yes l hl) (ev_pos rfl (Ev.now _))))
end Go.Proofs.Ytpbepgffbcfaoaa.PX
end
section
namespace Go.Proofs.Ytpbepgffbcfaoaa.PY
open Go.RowKit Go.Proofs.YtpbepgffbcfaoaaW.PrintWords Go.Proofs.YtpbepgffbcfaoaaW.PrintLast Go.Proofs.YtpbepgffbcfaoaaW.PrintMore Go.Proofs.Ytpbepgffbcfaoaa.PB Go.Proofs.Ytpbepgffbcfaoaa.PD Go.Proofs.Ytpbepgffbcfaoaa.PK Go.Proofs.Ytpbepgffbcfaoaa.PL Go.Proofs.Ytpbepgffbcfaoaa.PS Go.Proofs.Ytpbepgffbcfaoaa.PT Go.Proofs.Ytpbepgffbcfaoaa.PU Go.Proofs.Ytpbepgffbcfaoaa.PG Go.Proofs.Ytpbepgffbcfaoaa.PQ Go.Proofs.Ytpbepgffbcfaoaa.PW Go.Proofs.Ytpbepgffbcfaoaa.PX Go.Proofs.Ytpbepgffbcfaoaa.PA
set_option linter.unusedVariables false
theorem rdI_at (l : List S51) (i : Nat) (h : i < l.length) : rd_T51 l (i : Int) = l[i] := by
 simp [rd_T51, List.getD_eq_getElem?_getD, List.getElem?_eq_getElem h]
theorem rdL_at (l : List S50) (i : Nat) (h : i < l.length) : rd_T50 l (i : Int) = l[i] := by
 simp [rd_T50, List.getD_eq_getElem?_getD, List.getElem?_eq_getElem h]
def blkB (x : S51) : Bool := blockB x.f0 x.f1 x.f2
def blkM (x : S51) : ByteArray := dig 104 (blockM x.f0 x.f1 x.f2)
def Sm (x : S51) : Prop := x.f2.length ≤ 2000000
def chainOk (l : List S51) : Bool := decide ((l.length : Int) ≤ 12) && l.all blkB
theorem allS (l : List S51) (hl : l.length ≤ 2000000) (hs : ∀ x ∈ l, Sm x) : Ev (fun k => spec_l16All.f k l) (chainOk l) := by
 have key : ∀ (d i : Nat), i + d = l.length → Ev (fun k => spec_l16All.l0 k l l (l.length : Int) (i : Int)) (decide ((l.length : Int) ≤ 12) && (l.drop i).all blkB) := by
  intro d
  induction d with
  | zero =>
   intro i hi
   rw [List.drop_eq_nil_of_le (by omega), List.all_nil, Bool.and_true]
   refine Ev.step (f := fun _ => some (decide ((l.length : Int) ≤ 12))) (fun k => ?_) (Ev.now _)
   simp only [spec_l16All.l0]; rw [if_neg (by omega)]
  | succ d ih =>
   intro i hi
   have hlt : i < l.length := by omega
   rw [List.drop_eq_getElem_cons hlt, List.all_cons]
   refine Ev.step (f := fun k => (spec_GoodBlock.f k l[i].f0 l[i].f1 l[i].f2).bind fun t => if t = true then spec_l16All.l0 k l l (l.length : Int) ((i + 1 : Nat) : Int) else some false) (fun k => ?_) ?_
   ·simp only [spec_l16All.l0]
    rw [if_pos (by omega), if_pos (by omega), if_pos (by omega), rdI_at l i hlt, w64 (x := (i : Int) + 1) (by omega) (by omega)]
    rfl
   ·refine ev_bind (goodBlockS _ _ _ (hs _ (List.getElem_mem hlt))) ?_
    show Ev _ (decide ((l.length : Int) ≤ 12) && (blkB l[i] && _))
    unfold blkB
    cases hb : blockB l[i].f0 l[i].f1 l[i].f2 with
    | true => rw [Bool.true_and]; exact ev_pos rfl (ih (i + 1) (by omega))
    | false => rw [Bool.false_and, Bool.and_false]; exact ev_neg (by simp) (Ev.now _)
 exact key l.length 0 (by omega)
theorem allI (l : List S51) (hl : l.length ≤ 2000000) (hs : ∀ x ∈ l, Sm x) : Ev (fun k => impl_areBlocks.f k l) (chainOk l) := by
 unfold chainOk impl_areBlocks.f
 by_cases h : (l.length : Int) ≤ 12
 ·refine ev_pos h ?_
  rw [decide_eq_true h, Bool.true_and]
  obtain ⟨r, hr, e⟩ := idx_any l rd_T51 (fun i h => rdI_at l i h) slices_IndexFunc_impl_areBlocks_1.l0 (fun k x => impl_areBlocks_1.f k x.f0 x.f1 x.f2) (fun x => !blkB x) (fun k n i => rfl) (fun x hx => ev_bind (f := fun _ t => some (!t)) (goodBlockI _ _ _ (hs x hx)) (Ev.now _)) (by omega)
  have hc : Ev (fun k => slices_ContainsFunc_impl_areBlocks_1.f k l) (l.any fun x => !blkB x) := by
   rw [← e]
   exact ev_bind (f := fun _ t => some (decide (t ≥ 0))) hr (Ev.now _)
  refine ev_eq (ev_bind (f := fun _ t => some (!t)) hc (Ev.now _)) ?_
  rw [not_any, Bool.not_not]
 ·refine ev_neg h ?_
  rw [decide_eq_false h]
  exact Ev.now _
theorem chain_len {l : List S51} (h : chainOk l = true) : l.length ≤ 12 := by
 unfold chainOk at h
 simp only [Bool.and_eq_true, decide_eq_true_eq] at h
 omega
theorem chain_at {l : List S51} (h : chainOk l = true) (i : Nat) (hi : i < l.length) : blkB l[i] = true := by
 unfold chainOk at h
 simp only [Bool.and_eq_true] at h
 exact List.all_eq_true.1 h.2 _ (List.getElem_mem hi)
def lastM (l : List S51) : ByteArray := if l.length = 0 then ⟨#[0, 0, 0, 0]⟩ else blkM (rd_T51 l ((l.length - 1 : Nat) : Int))
theorem lastM_at (l : List S51) (n : Nat) (hl : l.length = n + 1) : lastM l = blkM (l[n]'(by omega)) := by
 unfold lastM
 rw [if_neg (by omega), show l.length - 1 = n by omega, rdI_at l n (by omega)]
theorem last_two (l : List S51) (h : ∀ x ∈ l, blkB x = true) (hl : l.length ≤ 2000000) : Ev (fun k => spec_l16Last.f k l) (lastM l) ∧ Ev (fun k => impl_lastDigest.f k l) (lastM l) := by
 by_cases h0 : l.length = 0
 ·unfold lastM
  rw [if_pos h0]
  exact ⟨ev_pos (by omega) (Ev.now _), ev_pos (by omega) (Ev.now _)⟩
 ·obtain ⟨n, hn⟩ : ∃ n, l.length = n + 1 := ⟨l.length - 1, by omega⟩
  have hb : blockB (l[n]'(by omega)).f0 (l[n]'(by omega)).f1 (l[n]'(by omega)).f2 = true := h _ (List.getElem_mem (by omega))
  have e : wrap64 ((l.length : Int) - 1) = (n : Int) := by rw [w64 (by omega) (by omega)]; omega
  rw [lastM_at l n hn]
  constructor
  ·unfold spec_l16Last.f
   rw [e, rdI_at l n (by omega)]
   exact ev_neg (by omega) (ev_pos (by omega) (ev_pos (by omega) (ev_bind (digBS _ _ _ hb) (Ev.now _))))
  ·unfold impl_lastDigest.f
   rw [e, rdI_at l n (by omega)]
   exact ev_neg (by omega) (ev_pos (by omega) (ev_pos (by omega) (ev_bind (digBI _ _ _ hb) (Ev.now _))))
def wtB (x : S50) : Nat := x.f0.size + x.f1.size + total x.f2
def FitB (x : S50) : Prop := x.f0.size ≤ 9223372036854775807 ∧ x.f1.size ≤ 9223372036854775807 ∧ Fit x.f2
theorem sz_list2 {α : Type} (wt : α → Nat) (l : List α) (rf : List α → Int → α) (hrf : ∀ i (h : i < l.length), rf l (i : Int) = l[i]) (L0 : Nat → List α → Int → Int → Option Int) (F : Nat → List α → Int → Option Int) (e : Nat → α → Int → Option Int)
  (hstep : ∀ k R i, L0 (k + 1) l R i = if i < (l.length : Int) then (if 0 ≤ i then ((e k (rf l i) R).bind fun t => if t < 0 then some (-1) else L0 k l t (wrap64 (i + 1))) else none) else some R)
  (hF : ∀ k R, F k l R = if wrap64 (R - (l.length : Int)) < 0 then some (-1) else L0 k l (wrap64 (R - (l.length : Int))) 0)
  (he : ∀ x ∈ l, ∀ R, 0 ≤ R → R ≤ 1000000000 → Ev (fun k => e k x R) (left R (wt x))) (hl : l.length ≤ 9223372036854775807) (R : Int) (h0 : 0 ≤ R) (h1 : R ≤ 1000000000) :
  Ev (fun k => F k l R) (left R (l.length + wsum wt l)) := by
 have key : ∀ (d i : Nat) (R : Int), i + d = l.length → 0 ≤ R → R ≤ 1000000000 → l.length ≤ 1000000000000 → Ev (fun k => L0 k l R (i : Int)) (left R (wsum wt (l.drop i))) := by
  intro d
  induction d with
  | zero =>
   intro i R hi h0 h1 h2
   rw [List.drop_eq_nil_of_le (by omega)]
   refine Ev.step (f := fun _ => some R) (fun k => by rw [hstep, if_neg (by omega)]) ?_
   refine ev_eq (Ev.now R) ?_
   show R = left R 0
   unfold left
   rw [if_pos (by omega)]; omega
  | succ d ih =>
   intro i R hi h0 h1 h2
   have hlt : i < l.length := by omega
   have hx := he _ (List.getElem_mem hlt) R h0 h1
   rw [List.drop_eq_getElem_cons hlt, show wsum wt (l[i] :: l.drop (i + 1)) = wt l[i] + wsum wt (l.drop (i + 1)) from rfl]
   refine Ev.step (f := fun k => (e k l[i] R).bind fun t => if t < 0 then some (-1) else L0 k l t ((i + 1 : Nat) : Int)) (fun k => ?_) ?_
   ·rw [hstep, if_pos (by omega), if_pos (by omega), hrf i hlt, w64 (x := (i : Int) + 1) (by omega) (by omega)]; rfl
   ·refine ev_bind hx ?_
    by_cases hc : ((wt l[i] : Nat) : Int) ≤ R
    ·rw [left_yes hc]
     refine ev_neg (by omega) ?_
     refine ev_eq (ih (i + 1) (R - wt l[i]) (by omega) (by omega) (by omega) h2) (left_add hc)
    ·rw [left_no hc]
     refine ev_pos (by omega) (ev_eq (Ev.now _) ?_)
     unfold left
     rw [if_neg (by omega)]
 by_cases hc : (l.length : Int) ≤ R
 ·refine Ev.congr (f := fun k => L0 k l (R - l.length) ((0 : Nat) : Int)) (fun k => ?_) ?_
  ·rw [hF, w64 (x := R - (l.length : Int)) (by omega) (by omega), if_neg (by omega)]; rfl
  ·refine ev_eq (key l.length 0 (R - l.length) (by omega) (by omega) (by omega) (by omega)) ?_
   rw [List.drop_zero]; exact left_add hc
 ·refine Ev.congr (f := fun _ => some (-1)) (fun k => ?_) (ev_eq (Ev.now _) ?_)
  ·rw [hF, w64 (x := R - (l.length : Int)) (by omega) (by omega), if_pos (by omega)]
  ·unfold left; rw [if_neg (by omega)]
theorem szBlocks (l : List S50) (hf : l.length ≤ 9223372036854775807 ∧ ∀ x ∈ l, FitB x) (R : Int) (h0 : 0 ≤ R) (h1 : R ≤ 1000000000) : Ev (fun k => laws_szBlockS.f k l R) (left R (l.length + wsum wtB l)) :=
 sz_list2 wtB l rd_T50 (fun i h => rdL_at l i h) laws_szBlockS.l0 laws_szBlockS.f (fun k x R => laws_szBlock.f k x.f0 x.f1 x.f2 R) (fun k R i => rfl) (fun k R => rfl)
  (fun x hx R h0 h1 => szBlock _ _ _ (hf.2 x hx).1 (hf.2 x hx).2.1 (hf.2 x hx).2.2 R h0 h1) hf.1 R h0 h1
def convB (x : S50) : S51 := ⟨x.f0, x.f1, x.f2⟩
theorem small_items (l : List S50) (h : l.length + wsum wtB l ≤ 1048576) : ∀ x ∈ l, x.f2.length ≤ 2000000 := by
 intro x hx
 have h1 := wsum_mem wtB l x hx
 have h2 : wtB x = x.f0.size + x.f1.size + (x.f2.length + szL x.f2) := rfl
 omega
theorem toBlocks (l : List S50) (hl : l.length ≤ 2000000) (hs : ∀ x ∈ l, x.f2.length ≤ 2000000) : Ev (fun k => laws_toBlockS.f k l) (l.map convB) := by
 refine Ev.congr (f := fun k => laws_toBlockS.l0 k l (List.replicate l.length z51) 0) (fun k => ?_) (to_list convB z51 l laws_toBlockS.l0 hl (fun k out => ?_) (fun i h out ho r hr => ?_))
 ·simp only [laws_toBlockS.f]
  rw [if_pos (by omega), if_pos (by omega)]
  rfl
 ·simp only [laws_toBlockS.l0]; rw [if_neg (by omega)]
 ·refine Ev.step (f := fun k => (laws_toBlock.f k l[i].f0 l[i].f1 l[i].f2).bind fun b => laws_toBlockS.l0 k l (out.set i (⟨b.1, b.2.1, b.2.2⟩ : S51)) ((i + 1 : Nat) : Int)) (fun k => ?_) (ev_bind (toBlock _ _ _ (hs _ (List.getElem_mem h))) hr)
  simp only [laws_toBlockS.l0]
  rw [if_pos (by omega), if_pos (by omega), rdL_at l i h, w64 (x := (i : Int) + 1) (by omega) (by omega)]
  congr 1
  funext b
  rw [if_pos (by omega)]
  rfl
theorem eqBlocks (l : List S51) (hl : l.length ≤ 2000000) (hs : ∀ x ∈ l, Sm x) : Ev (fun k => laws_eqBlockS.f k l l) true := by
 refine eq_list l laws_eqBlockS.l0 laws_eqBlockS.f (fun k => ?_) (fun k => ?_) (fun i h hr => ?_)
 ·simp only [laws_eqBlockS.l0]; rw [if_neg (by omega)]
 ·simp only [laws_eqBlockS.f]; rw [if_pos trivial]
 ·refine Ev.step (f := fun k => (laws_eqBlock.f k l[i].f0 l[i].f1 l[i].f2 l[i].f0 l[i].f1 l[i].f2).bind fun t => if t = true then laws_eqBlockS.l0 k l l ((i + 1 : Nat) : Int) else some false) (fun k => ?_) (ev_bind (eqBlock _ _ _ (hs _ (List.getElem_mem h))) (ev_pos rfl hr))
  simp only [laws_eqBlockS.l0]
  rw [if_pos (by omega), if_pos (by omega), if_pos (by omega), rdI_at l i h, w64 (x := (i : Int) + 1) (by omega) (by omega)]
  rfl
theorem sm_map (l : List S50) (hs : ∀ x ∈ l, x.f2.length ≤ 2000000) : ∀ x ∈ l.map convB, Sm x := by
 intro x hx
 obtain ⟨y, hy, rfl⟩ := List.mem_map.1 hx
 exact hs y hy
theorem goodChain_two (l : List S51) (hl : l.length ≤ 2000000) (hs : ∀ x ∈ l, Sm x) : ∃ r, Ev (fun k => spec_GoodChain.f k l) r ∧ Ev (fun k => impl_GoodChain.f k l) r := by
 have hS := allS l hl hs
 have hI := allI l hl hs
 cases h : chainOk l with
 | false =>
  rw [h] at hS hI
  exact ⟨false, ev_bind hS (ev_neg (by simp) (Ev.now _)), ev_bind hI (ev_neg (by simp) (Ev.now _))⟩
 | true =>
  rw [h] at hS hI
  have key : ∀ (d i : Nat), i + d = l.length → ∃ r, Ev (fun k => spec_GoodChain.l0 k l l (l.length : Int) (i : Int)) r ∧ Ev (fun k => impl_GoodChain.l0 k l l (l.length : Int) (i : Int)) r := by
   intro d
   induction d with
   | zero =>
    intro i hi
    exact ⟨true, Ev.step (f := fun _ => some true) (fun k => by simp only [spec_GoodChain.l0]; rw [if_neg (by omega)]) (Ev.now _), Ev.step (f := fun _ => some true) (fun k => by simp only [impl_GoodChain.l0]; rw [if_neg (by omega)]) (Ev.now _)⟩
   | succ d ih =>
    intro i hi
    have hlt : i < l.length := by omega
    obtain ⟨r, h1, h2⟩ := ih (i + 1) (by omega)
    have ht : ∀ x ∈ l.take i, blkB x = true := fun x hx => by
     obtain ⟨j, hj, e⟩ := List.getElem_of_mem (List.mem_of_mem_take hx)
     rw [← e]; exact chain_at h j hj
    obtain ⟨t1, t2⟩ := last_two (l.take i) ht (by rw [List.length_take]; omega)
    have s1 : ∀ {r : Bool}, Ev (fun k => (spec_l16Last.f k (l.take i)).bind fun t => if l[i].f0.toList = t.toList then spec_GoodChain.l0 k l l (l.length : Int) ((i + 1 : Nat) : Int) else some false) r → Ev (fun k => spec_GoodChain.l0 k l l (l.length : Int) (i : Int)) r := by
     intro r hr
     refine Ev.step (fun k => ?_) hr
     simp only [spec_GoodChain.l0]
     rw [if_pos (by omega), if_pos (by omega), if_pos (by omega), if_pos (by omega), rdI_at l i hlt, w64 (x := (i : Int) + 1) (by omega) (by omega)]
     rfl
    have s2 : ∀ {r : Bool}, Ev (fun k => (impl_lastDigest.f k (l.take i)).bind fun t => if l[i].f0.toList = t.toList then impl_GoodChain.l0 k l l (l.length : Int) ((i + 1 : Nat) : Int) else some false) r → Ev (fun k => impl_GoodChain.l0 k l l (l.length : Int) (i : Int)) r := by
     intro r hr
     refine Ev.step (fun k => ?_) hr
     simp only [impl_GoodChain.l0]
     rw [if_pos (by omega), if_pos (by omega), if_pos (by omega), if_pos (by omega), rdI_at l i hlt, w64 (x := (i : Int) + 1) (by omega) (by omega)]
     rfl
    by_cases hc : l[i].f0.toList = (lastM (l.take i)).toList
    ·exact ⟨r, s1 (ev_bind t1 (ev_pos hc h1)), s2 (ev_bind t2 (ev_pos hc h2))⟩
    ·exact ⟨false, s1 (ev_bind t1 (ev_neg hc (Ev.now _))), s2 (ev_bind t2 (ev_neg hc (Ev.now _)))⟩
  obtain ⟨r, h1, h2⟩ := key l.length 0 (by omega)
  exact ⟨r, ev_bind hS (ev_pos rfl h1), ev_bind hI (ev_pos rfl h2)⟩
theorem chain_mem {l : List S51} (hc : chainOk l = true) : ∀ x ∈ l, blkB x = true := fun x hx => by
 obtain ⟨j, hj, e⟩ := List.getElem_of_mem hx
 rw [← e]; exact chain_at hc j hj
end Go.Proofs.Ytpbepgffbcfaoaa.PY
end
section
namespace Go.Proofs.Ytpbepgffbcfaoaa.QA
open Go.RowKit Go.Proofs.YtpbepgffbcfaoaaW.PrintWords Go.Proofs.YtpbepgffbcfaoaaW.PrintLast Go.Proofs.YtpbepgffbcfaoaaW.PrintMore Go.Proofs.Ytpbepgffbcfaoaa.PB Go.Proofs.Ytpbepgffbcfaoaa.PD Go.Proofs.Ytpbepgffbcfaoaa.PU Go.Proofs.Ytpbepgffbcfaoaa.PL Go.Proofs.Ytpbepgffbcfaoaa.PG Go.Proofs.Ytpbepgffbcfaoaa.PW Go.Proofs.Ytpbepgffbcfaoaa.PX Go.Proofs.Ytpbepgffbcfaoaa.PY Go.Proofs.Ytpbepgffbcfaoaa.PA
set_option linter.unusedVariables false
def zero4 : ByteArray := ⟨#[0, 0, 0, 0]⟩
abbrev bk (l : List S51) (i : Nat) : S51 := rd_T51 l (i : Int)
theorem bk_at (l : List S51) (i : Nat) (h : i < l.length) : bk l i = l[i] := PY.rdI_at l i h
def LinkAt (l : List S51) (i : Nat) : Prop := (i = 0 → (bk l i).f0 = zero4) ∧ (0 < i → (bk l i).f0 = blkM (bk l (i - 1)))
def Linked (l : List S51) : Prop := chainOk l = true ∧ ∀ i, i < l.length → LinkAt l i
theorem lastM_size (l : List S51) : (lastM l).size = 4 := by
 unfold lastM
 split
 ·decide
 ·exact dig_size _ _
theorem lastM_take (l : List S51) (i : Nat) (h : i < l.length) : LinkAt l i ↔ (bk l i).f0 = lastM (l.take i) := by
 unfold LinkAt
 by_cases h0 : i = 0
 ·subst h0
  have : lastM (l.take 0) = zero4 := by unfold lastM; rw [if_pos (by simp)]; rfl
  rw [this]
  exact ⟨fun h => h.1 rfl, fun h => ⟨fun _ => h, fun h => absurd h (by omega)⟩⟩
 ·have e : lastM (l.take i) = blkM (bk l (i - 1)) := by
   rw [lastM_at (l.take i) (i - 1) (by rw [List.length_take]; omega), bk_at l (i - 1) (by omega), List.getElem_take]
  rw [e]
  exact ⟨fun h => h.2 (by omega), fun h => ⟨fun h1 => absurd h1 h0, fun _ => h⟩⟩
theorem goodChainI (l : List S51) (hl : l.length ≤ 2000000) (hs : ∀ x ∈ l, Sm x) : Ev (fun k => impl_GoodChain.f k l) (ch (Linked l)) := by
 have hI := allI l hl hs
 cases h : chainOk l with
 | false =>
  rw [h] at hI
  exact ev_bind hI (ev_neg (by simp) (ev_eq (Ev.now _) (ch_no (fun e => by rw [e.1] at h; cases h)).symm))
 | true =>
  rw [h] at hI
  refine ev_bind hI (ev_pos rfl ?_)
  have one : ∀ {r : Bool} (i : Nat) (hi : i < l.length), Ev (fun k => if l[i].f0.toList = (lastM (l.take i)).toList then impl_GoodChain.l0 k l l (l.length : Int) ((i + 1 : Nat) : Int) else some false) r → Ev (fun k => impl_GoodChain.l0 k l l (l.length : Int) (i : Int)) r := by
   intro r i hi hr
   have ht : ∀ x ∈ l.take i, blkB x = true := fun x hx => by
    obtain ⟨j, hj, e⟩ := List.getElem_of_mem (List.mem_of_mem_take hx)
    rw [← e]; exact chain_at h j hj
   obtain ⟨_, t2⟩ := last_two (l.take i) ht (by rw [List.length_take]; omega)
   refine Ev.step (f := fun k => (impl_lastDigest.f k (l.take i)).bind fun t => if l[i].f0.toList = t.toList then impl_GoodChain.l0 k l l (l.length : Int) ((i + 1 : Nat) : Int) else some false) (fun k => ?_) (ev_bind t2 hr)
   simp only [impl_GoodChain.l0]
   rw [if_pos (by omega), if_pos (by omega), if_pos (by omega), if_pos (by omega), PY.rdI_at l i hi, w64 (x := (i : Int) + 1) (by omega) (by omega)]
   rfl
  have atq : ∀ i (hi : i < l.length), LinkAt l i ↔ l[i].f0.toList = (lastM (l.take i)).toList := by
   intro i hi
   rw [lastM_take l i hi, bk_at l i hi]
   exact ba_iff.symm
  by_cases hA : ∀ i, i < l.length → LinkAt l i
  ·rw [ch_yes (show Linked l from ⟨h, hA⟩)]
   exact loop_yes l.length (fun i k => impl_GoodChain.l0 k l l (l.length : Int) (i : Int)) (fun i => LinkAt l i) true (fun r i hi hq hr => one i hi (ev_pos ((atq i hi).1 hq) hr)) (Ev.step (f := fun _ => some true) (fun k => by simp only [impl_GoodChain.l0]; rw [if_neg (by omega)]) (Ev.now _)) hA
  ·rw [ch_no (fun e : Linked l => hA e.2)]
   exact loop_no l.length (fun i k => impl_GoodChain.l0 k l l (l.length : Int) (i : Int)) (fun i => LinkAt l i) false (fun r i hi hq hr => one i hi (ev_pos ((atq i hi).1 hq) hr)) (fun i hi hq => one i hi (ev_neg (fun e => hq ((atq i hi).2 e)) (Ev.now _))) hA
theorem goodChainS (l : List S51) (hl : l.length ≤ 2000000) (hs : ∀ x ∈ l, Sm x) : Ev (fun k => spec_GoodChain.f k l) (ch (Linked l)) := by
 obtain ⟨r, h1, h2⟩ := goodChain_two l hl hs
 rw [ev_unique (goodChainI l hl hs) h2]
 exact h1
noncomputable def putBlockM (l : List S51) (a : ByteArray) (m : List ByteArray) : List S51 × Bool :=
 if ch (Linked l) = true then (if blockB zero4 a m = true ∧ l.length ≠ 12 then (l ++ [⟨lastM l, a, m⟩], true) else ([], false)) else ([], false)
theorem blockB_prev {a b c : ByteArray} {m : List ByteArray} (ha : a.size = 4) (hb : b.size = 4) : blockB a c m = blockB b c m := by
 unfold blockB
 rw [ha, hb]
theorem cloneT (m : List ByteArray) (hm : m.length ≤ 2000000) : slices_Clone_string_string.f m = some m := by
 unfold slices_Clone_string_string.f
 simp only [Option.bind_some]
 rw [if_pos (by simp only [List.length_nil]; omega)]
 rfl
theorem ownS (l : List S51) (hl : l.length ≤ 2000000) (hs : ∀ x ∈ l, Sm x) : Ev (fun k => spec_l16Own.f k l) l := by
 have key : ∀ (d i : Nat), i + d = l.length → Ev (fun k => spec_l16Own.l0 k (l.take i) l (l.length : Int) (i : Int)) l := by
  intro d
  induction d with
  | zero =>
   intro i hi
   refine Ev.step (f := fun _ => some (l.take i)) (fun k => by simp only [spec_l16Own.l0]; rw [if_neg (by omega)]) (ev_eq (Ev.now _) ?_)
   exact List.take_of_length_le (by omega)
  | succ d ih =>
   intro i hi
   have hlt : i < l.length := by omega
   have hsm : l[i].f2.length ≤ 2000000 := hs _ (List.getElem_mem hlt)
   have e : l.take i ++ [(⟨l[i].f0, l[i].f1, [] ++ l[i].f2⟩ : S51)] = l.take (i + 1) := by
    rw [List.take_succ_eq_append_getElem hlt]
    rfl
   refine Ev.step (f := fun k => spec_l16Own.l0 k (l.take (i + 1)) l (l.length : Int) ((i + 1 : Nat) : Int)) (fun k => ?_) (ih (i + 1) (by omega))
   simp only [spec_l16Own.l0]
   rw [if_pos (by omega), if_pos (by omega), if_pos (by omega), PY.rdI_at l i hlt]
   simp only [Option.bind_some]
   rw [if_pos (by simp only [List.length_nil]; omega), if_pos (by rw [List.length_take]; omega), w64 (x := (i : Int) + 1) (by omega) (by omega), e]
   rfl
 exact key l.length 0 (by omega)
theorem putBlockS (l : List S51) (a : ByteArray) (m : List ByteArray) (hl : l.length ≤ 2000000) (hs : ∀ x ∈ l, Sm x) (hm : m.length ≤ 2000000) : Ev (fun k => spec_PutBlock.f k l a m) (putBlockM l a m) := by
 have hg := goodChainS l hl hs
 have hb := goodBlockS ⟨#[0, 0, 0, 0]⟩ a m hm
 have no : Ev (fun k => spec_PutBlock.j0 k l true ⟨#[0, 0, 0, 0]⟩ a m) ([], false) := Ev.step (f := fun _ => some ([], false)) (fun k => by simp only [spec_PutBlock.j0]; rw [if_pos trivial]) (Ev.now _)
 unfold putBlockM
 refine ev_const (a := []) rfl (ev_pos (by simp only [List.length_nil]; omega) (ev_const (a := m) rfl (ev_bind hg ?_)))
 cases h : ch (Linked l) with
 | false => exact ev_neg (by simp) no
 | true =>
  have hc := ch_true h
  refine ev_pos rfl (ev_bind hb ?_)
  cases h2 : blockB ⟨#[0, 0, 0, 0]⟩ a m with
  | false =>
   rw [if_pos rfl, if_neg (fun e => by rw [show zero4 = ⟨#[0, 0, 0, 0]⟩ from rfl, h2] at e; cases e.1)]
   exact ev_neg (by simp) no
  | true =>
   refine ev_pos rfl ?_
   by_cases h3 : l.length = 12
   ·rw [if_pos rfl, if_neg (fun e => e.2 h3), show ((l.length : Int) == 12) = true from beq_iff_eq.2 (by omega)]
    exact no
   ·rw [if_pos rfl, if_pos ⟨h2, h3⟩, show ((l.length : Int) == 12) = false from beq_eq_false_iff_ne.2 (by omega)]
    refine Ev.step (f := fun k => _) (fun k => by simp only [spec_PutBlock.j0]; rfl) ?_
    have hn := chain_len hc.1
    exact ev_neg (by simp) (ev_bind (last_two l (chain_mem hc.1) hl).1 (ev_bind (ownS l hl hs) (ev_const rfl (ev_pos (by simp only [List.length_cons, List.length_nil]; omega) (Ev.now _)))))
theorem putBlockI (l : List S51) (a : ByteArray) (m : List ByteArray) (hl : l.length ≤ 2000000) (hs : ∀ x ∈ l, Sm x) (hm : m.length ≤ 2000000) : Ev (fun k => impl_PutBlock.f k l a m) (putBlockM l a m) := by
 have hg := goodChainI l hl hs
 have no : Ev (fun k => impl_PutBlock.j0 k l a m true) ([], false) := Ev.step (f := fun _ => some ([], false)) (fun k => by simp only [impl_PutBlock.j0]; rw [if_pos trivial]) (Ev.now _)
 unfold putBlockM
 refine ev_bind hg ?_
 cases h : ch (Linked l) with
 | false => exact ev_neg (by simp) no
 | true =>
  have hc := ch_true h
  refine ev_pos rfl ?_
  by_cases h3 : l.length = 12
  ·rw [if_pos rfl, if_neg (fun e => e.2 h3), show ((l.length : Int) == 12) = true from beq_iff_eq.2 (by omega)]
   exact no
  ·rw [show ((l.length : Int) == 12) = false from beq_eq_false_iff_ne.2 (by omega), if_pos rfl]
   refine Ev.step (f := fun k => _) (fun k => by simp only [impl_PutBlock.j0]; rfl) ?_
   have hb := goodBlockI (lastM l) a m hm
   rw [blockB_prev (lastM_size l) (show zero4.size = 4 from rfl)] at hb
   refine ev_neg (by simp) (ev_bind (last_two l (chain_mem hc.1) hl).2 (ev_bind hb ?_))
   cases h2 : blockB zero4 a m with
   | false => rw [if_neg (fun e => by cases e.1)]; exact ev_neg (by simp) (Ev.now _)
   | true =>
    rw [if_pos ⟨rfl, h3⟩]
    refine ev_pos rfl ?_
    have cp : ∀ (p q : ByteArray) (r : List ByteArray), r.length ≤ 2000000 → impl_Block_copied.f p q r = some (p, q, r) := by
     intro p q r hr
     unfold impl_Block_copied.f
     rw [cloneT r hr]
     rfl
    have hn := chain_len hc.1
    have key : ∀ (d i : Nat), i + d = l.length → Ev (fun k => impl_PutBlock.l0 k (l.take i) l (l.length : Int) (i : Int) (lastM l) a m) (l ++ [⟨lastM l, a, m⟩], true) := by
     intro d
     induction d with
     | zero =>
      intro i hi
      refine Ev.step (f := fun _ => some (l ++ [⟨lastM l, a, m⟩], true)) (fun k => ?_) (Ev.now _)
      simp only [impl_PutBlock.l0]
      rw [if_neg (by omega), cp _ _ _ hm]
      simp only [Option.bind_some]
      rw [List.take_of_length_le (by omega), if_pos (by omega)]
     | succ d ih =>
      intro i hi
      have hlt : i < l.length := by omega
      have e : l.take i ++ [(⟨l[i].f0, l[i].f1, l[i].f2⟩ : S51)] = l.take (i + 1) := by
       rw [List.take_succ_eq_append_getElem hlt]
      refine Ev.step (f := fun k => impl_PutBlock.l0 k (l.take (i + 1)) l (l.length : Int) ((i + 1 : Nat) : Int) (lastM l) a m) (fun k => ?_) (ih (i + 1) (by omega))
      simp only [impl_PutBlock.l0]
      rw [if_pos (by omega), if_pos (by omega), if_pos (by omega), PY.rdI_at l i hlt, cp _ _ _ (hs _ (List.getElem_mem hlt))]
      simp only [Option.bind_some]
      rw [if_pos (by rw [List.length_take]; omega), w64 (x := (i : Int) + 1) (by omega) (by omega), e]
      rfl
    exact key l.length 0 (by omega)
end Go.Proofs.Ytpbepgffbcfaoaa.QA
end
section
namespace Go.Proofs.Ytpbepgffbcfaoaa.Pure
open Go.RowKit Go.Proofs.YtpbepgffbcfaoaaW.PrintWords Go.Proofs.YtpbepgffbcfaoaaW.PrintLast Go.Proofs.YtpbepgffbcfaoaaW.PrintMore Go.Proofs.Ytpbepgffbcfaoaa.PB Go.Proofs.Ytpbepgffbcfaoaa.PL Go.Proofs.Ytpbepgffbcfaoaa.PG Go.Proofs.Ytpbepgffbcfaoaa.PW Go.Proofs.Ytpbepgffbcfaoaa.PX Go.Proofs.Ytpbepgffbcfaoaa.PY Go.Proofs.Ytpbepgffbcfaoaa.QA Go.Proofs.Ytpbepgffbcfaoaa.PA
set_option linter.unusedVariables false
noncomputable def mkB (a : Nat) (x : S51) : S51 := ⟨mk_ a, mk_ (a + 1), marks (a + 2) x.f2.length⟩
noncomputable def mkBs : Nat → List S51 → List S51
 | _, [] => []
 | a, x :: l => mkB a x :: mkBs (a + 2 + x.f2.length) l
def sumB : List S51 → Nat
 | [] => 0
 | x :: l => 2 + x.f2.length + sumB l
theorem sumB_append (l m : List S51) : sumB (l ++ m) = sumB l + sumB m := by
 induction l with
 | nil => simp [sumB]
 | cons x l ih => simp only [List.cons_append, sumB, ih]; omega
theorem sumB_wt (l : List S50) : sumB (l.map convB) ≤ 2 * l.length + wsum wtB l := by
 induction l with
 | nil => simp [sumB]
 | cons x l ih =>
  simp only [List.map_cons, sumB, List.length_cons]
  have h1 : wsum wtB (x :: l) = wtB x + wsum wtB l := rfl
  have h2 : wtB x = x.f0.size + x.f1.size + (x.f2.length + szL x.f2) := rfl
  have h3 : (convB x).f2.length = x.f2.length := rfl
  omega
theorem rd_mid (P l : List S51) (x : S51) : rd_T51 (P ++ x :: l) (P.length : Int) = x := by
 rw [PY.rdI_at _ _ (by simp)]
 simp
theorem set_mid (P l : List S51) (x y : S51) : (P ++ x :: l).set (P.length : Int).toNat y = (P ++ [y]) ++ l := by
 rw [Int.toNat_natCast, List.set_append_right _ _ (by omega), Nat.sub_self]
 simp
theorem add_one (a : Nat) (h : a ≤ 1000000000000) : wrap64 ((a : Int) + 1) = ((a + 1 : Nat) : Int) := by rw [w64 (by omega) (by omega)]; rfl
theorem markB_loop : ∀ (l P : List S51) (a : Nat), P.length + l.length ≤ 100000000 → a + sumB l ≤ 100000000 → Ev (fun k => PP.markL k (P ++ l) (a : Int) (P.length : Int)) (((a + sumB l : Nat) : Int), P ++ mkBs a l) := by
 intro l
 induction l with
 | nil =>
  intro P a _ _
  refine Ev.step (f := fun _ => some (((a + 0 : Nat) : Int), P ++ [])) (fun k => ?_) (Ev.now _)
  simp only [PP.markL]
  rw [if_neg (by simp)]
  rfl
 | cons x l ih =>
  intro P a hl ha
  simp only [sumB, List.length_cons] at ha hl
  have hx := ih (P ++ [mkB a x]) (a + 2 + x.f2.length) (by simp only [List.length_append, List.length_cons, List.length_nil]; omega) (by omega)
  rw [List.append_assoc (P) [mkB a x] (mkBs _ l)] at hx
  have e1 : a + sumB (x :: l) = a + 2 + x.f2.length + sumB l := by simp only [sumB]; omega
  rw [e1]
  have eP : ((P ++ [mkB a x]).length : Int) = ((P.length + 1 : Nat) : Int) := by simp
  rw [eP] at hx
  have i1 : (P.length : Int) < ((P ++ x :: l).length : Int) := by simp only [List.length_append, List.length_cons]; omega
  refine Ev.step (f := fun k => (laws_markText.f k (a : Int)).bind fun t0 => (laws_markText.f k ((a + 1 : Nat) : Int)).bind fun t1 => (laws_markStringS.f k x.f2 ((a + 2 : Nat) : Int)).bind fun bt => PP.markL k ((P ++ [⟨t0, t1, bt.2⟩]) ++ l) bt.1 ((P.length + 1 : Nat) : Int)) (fun k => ?_) ?_
  ·simp only [PP.markL]
   rw [if_pos i1, if_pos (by omega), add_one a (by omega), add_one (a + 1) (by omega), add_one P.length (by omega), rd_mid]
   simp only [set_mid]
  ·refine ev_bind (markT a (by omega)) (ev_bind (markT (a + 1) (by omega)) (ev_bind (markS x.f2 (a + 2) (by omega) (by omega)) hx))
theorem markBlocks (l : List S51) (a : Nat) (hl : l.length ≤ 100000000) (ha : a + sumB l ≤ 100000000) : Ev (fun k => laws_markBlockS.f k l (a : Int)) (((a + sumB l : Nat) : Int), mkBs a l) := markB_loop l [] a (by simpa using hl) ha
theorem heldB_loop : ∀ (l P : List S51) (a : Nat), P.length + l.length ≤ 100000000 → a + sumB l ≤ 100000000 → Ev (fun k => laws_heldBlockS.l0 k (P ++ mkBs a l) (a : Int) (P.length : Int)) ((a + sumB l : Nat) : Int) := by
 intro l
 induction l with
 | nil =>
  intro P a _ _
  refine Ev.step (f := fun _ => some ((a + 0 : Nat) : Int)) (fun k => ?_) (Ev.now _)
  simp only [laws_heldBlockS.l0]
  rw [if_neg (by simp [mkBs])]
  rfl
 | cons x l ih =>
  intro P a hl ha
  simp only [sumB, List.length_cons] at ha hl
  have hx := ih (P ++ [mkB a x]) (a + 2 + x.f2.length) (by simp only [List.length_append, List.length_cons, List.length_nil]; omega) (by omega)
  have e1 : a + sumB (x :: l) = a + 2 + x.f2.length + sumB l := by simp only [sumB]; omega
  rw [e1]
  have eP : ((P ++ [mkB a x]).length : Int) = ((P.length + 1 : Nat) : Int) := by simp
  rw [eP, show P ++ [mkB a x] ++ mkBs (a + 2 + x.f2.length) l = P ++ mkB a x :: mkBs (a + 2 + x.f2.length) l by simp] at hx
  have i1 : (P.length : Int) < ((P ++ mkB a x :: mkBs (a + 2 + x.f2.length) l).length : Int) := by simp only [List.length_append, List.length_cons]; omega
  have eL : mkBs a (x :: l) = mkB a x :: mkBs (a + 2 + x.f2.length) l := rfl
  rw [eL]
  refine Ev.step (f := fun k => (laws_markText.f k (a : Int)).bind fun t => if (mk_ a).toList = t.toList then ((laws_markText.f k ((a + 1 : Nat) : Int)).bind fun t => if (mk_ (a + 1)).toList = t.toList then ((laws_heldStringS.f k (marks (a + 2) x.f2.length) ((a + 2 : Nat) : Int)).bind fun t => if t < 0 then some (-1) else laws_heldBlockS.l0 k (P ++ mkB a x :: mkBs (a + 2 + x.f2.length) l) t ((P.length + 1 : Nat) : Int)) else some (-1)) else some (-1)) (fun k => ?_) ?_
  ·simp only [laws_heldBlockS.l0]
   rw [if_pos i1, if_pos (by omega), add_one a (by omega), add_one (a + 1) (by omega), add_one P.length (by omega), rd_mid]
   rfl
  ·exact ev_bind (markT a (by omega)) (ev_pos rfl (ev_bind (markT (a + 1) (by omega)) (ev_pos rfl (ev_bind (heldS x.f2.length (a + 2) (by omega) (by omega)) (ev_neg (by omega) hx)))))
theorem heldBlocks (l : List S51) (a : Nat) (hl : l.length ≤ 100000000) (ha : a + sumB l ≤ 100000000) : Ev (fun k => laws_heldBlockS.f k (mkBs a l) (a : Int)) ((a + sumB l : Nat) : Int) := heldB_loop l [] a (by simpa using hl) ha
theorem FnExactPutBlock (l : List S50) (a : ByteArray) (m : List ByteArray) (hf : l.length ≤ maxLen ∧ ∀ x ∈ l, (x : S50).f0.size ≤ maxLen ∧ x.f1.size ≤ maxLen ∧ x.f2.length ≤ maxLen ∧ ∀ y ∈ x.f2, y.size ≤ maxLen) (ha : a.size ≤ maxLen) (hm : m.length ≤ maxLen ∧ ∀ x ∈ m, x.size ≤ maxLen) : ∃ k, laws_FnExactPutBlock.f k l a m = some true := by
 refine Ev.rounds ?_
 refine Ev.congr (f := fun k => RB.lawF k l a m) (fun k => rfl) ?_
 unfold RB.lawF
 by_cases c0 : (1048576 : Int) < (a.size : Int)
 ·simp only [if_pos c0]; exact Ev.now _
 simp only [if_neg c0]
 have hz := szBlocks l ⟨hf.1, fun x hx => let h := hf.2 x hx; ⟨h.1, h.2.1, h.2.2⟩⟩ 1048576 (by omega) (by omega)
 by_cases ht : ((l.length + wsum wtB l : Nat) : Int) ≤ 1048576
 ·rw [left_yes ht] at hz
  have hz2 := szS m hm ((1048576 : Int) - ((l.length + wsum wtB l : Nat) : Int)) (by omega) (by omega)
  by_cases ht2 : (total m : Int) ≤ (1048576 : Int) - ((l.length + wsum wtB l : Nat) : Int)
  ·rw [if_pos ht2] at hz2
   have hl : l.length ≤ 2000000 := by omega
   have hml : m.length ≤ 2000000 := by unfold total at ht2; omega
   have hs := small_items l (by omega)
   have hS := putBlockS (l.map convB) a m (by rw [List.length_map]; exact hl) (sm_map l hs) hml
   have hI := putBlockI (l.map convB) a m (by rw [List.length_map]; exact hl) (sm_map l hs) hml
   have hsum := sumB_wt l
   have hr : (putBlockM (l.map convB) a m).1.length ≤ 2000000 ∧ (∀ x ∈ (putBlockM (l.map convB) a m).1, Sm x) ∧ 1 + sumB (putBlockM (l.map convB) a m).1 ≤ 100000000 := by
    unfold putBlockM
    split
    ·next hc =>
     split
     ·have hn := chain_len (ch_true hc).1
      refine ⟨by simp only [List.length_append, List.length_cons, List.length_nil]; omega, ?_, ?_⟩
      ·intro x hx
       rcases List.mem_append.1 hx with h | h
       ·exact sm_map l hs x h
       ·rw [List.mem_singleton.1 h]; exact hml
      ·show 1 + sumB (l.map convB ++ [_]) ≤ _
       rw [sumB_append]
       simp only [sumB]
       omega
     ·exact ⟨by simp, fun x hx => by simp at hx, by simp [sumB]⟩
    ·exact ⟨by simp, fun x hx => by simp at hx, by simp [sumB]⟩
   generalize putBlockM (l.map convB) a m = r at hS hI hr
   obtain ⟨g, b⟩ := r
   obtain ⟨h1, h2, h3⟩ := hr
   replace h1 : g.length ≤ 2000000 := h1
   replace h3 : 1 + sumB g ≤ 100000000 := h3
   have hxl : (l.map convB).length ≤ 2000000 := by rw [List.length_map]; exact hl
   refine ev_bind hz (ev_neg (by omega) (ev_bind hz2 (ev_neg (by omega) (ev_bind (toBlocks l hl hs) (ev_bind (toS m hml) (ev_bind hS (ev_bind hI (ev_bind (markBlocks (l.map convB) 1 (by omega) (by omega)) (ev_bind (markS m (1 + sumB (l.map convB)) (by omega) (by omega)) (ev_bind (markBlocks g 1 (by omega) h3) (ev_bind (heldBlocks g 1 (by omega) h3) ?_)))))))))))
   have E1 := eqBlocks g h1 h2
   have E2 := eqBlocks (l.map convB) hxl (sm_map l hs)
   have E3 := eqS_yes m hml
   obtain ⟨K1, E1⟩ := E1
   obtain ⟨K2, E2⟩ := E2
   obtain ⟨K3, E3⟩ := E3
   exact ⟨K1 + K2 + K3, fun k hk => if_pos ⟨E1 k (by omega), rfl, E2 k (by omega), E3 k (by omega), Int.natCast_nonneg _, Int.natCast_nonneg _, rfl⟩⟩
  ·rw [if_neg ht2] at hz2
   exact ev_bind hz (ev_neg (by omega) (ev_bind hz2 (ev_pos (by omega) (Ev.now _))))
 ·rw [left_no ht] at hz
  exact ev_bind hz (ev_pos (by omega) (Ev.now _))
end Go.Proofs.Ytpbepgffbcfaoaa.Pure
end
section
namespace Go.Proofs.Ytpbepgffbcfaoaa.RO
open Go.RowKit Go.Proofs.YtpbepgffbcfaoaaW.PrintWords Go.ChangeShapes Go.WideShapes
set_option linter.unusedVariables false
def Opn (P : Program) (W : World) (e : TypeId) {α : Type} (d : Kd α) (G : α → Prop) : Prop :=
 ∀ {H : Type} {enc : TypeId × Value → H} {base : Nat} {spare : Nat → Bool} {held : Bool} {n : Nat} {cs : List Value} {x : DataW H × List MemPlace},
  DataW.trod enc P W base spare held n e cs = some x → ∃ y : α, d.K W y cs ∧ G y
section
variable {P : Program} {W : World} {e t : TypeId}
theorem op_string (he : P.underlying e = some .string) : Opn P W e Kd.string (fun s => s.size ≤ maxLen) := by
 intro H enc base spare held n cs x h
 obtain ⟨s, rfl, _, hs⟩ := DataW.trod_string he h
 exact ⟨s, rfl, hs⟩
theorem pick {α : Type} {p : Nat → α → Prop} : ∀ (n : Nat), (∀ i, i < n → ∃ y, p i y) → ∃ ys : List α, ys.length = n ∧ ∀ i y, ys[i]? = some y → p i y := by
 intro n
 induction n with
 | zero => intro _; exact ⟨[], rfl, fun i y h => by simp at h⟩
 | succ n ih =>
  intro h
  obtain ⟨ys, hl, hp⟩ := ih (fun i hi => h i (by omega))
  obtain ⟨y, hy⟩ := h n (by omega)
  refine ⟨ys ++ [y], by simp [hl], fun i z hz => ?_⟩
  by_cases hi : i < n
  ·rw [List.getElem?_append_left (by omega)] at hz
   exact hp i z hz
  ·rw [List.getElem?_append_right (by omega)] at hz
   have : i = n := by
    rcases Nat.lt_or_ge (i - ys.length) 1 with h1 | h1
    ·omega
    ·rw [List.getElem?_eq_none (by simpa using h1)] at hz; cases hz
   subst this
   rw [hl, Nat.sub_self] at hz
   simp at hz
   subst hz
   exact hy
theorem op_slice {α : Type} {d : Kd α} {G : α → Prop} (ht : P.underlying t = some (.slice e)) (hc : P.cellsOf e = d.sz) (ho : Opn P W e d G) : Opn P W t (Kd.slice e d) (fun l => l.length ≤ maxLen ∧ ∀ x ∈ l, G x) := by
 intro H enc base spare held n cs x h
 rcases Deep.open_slice ht h with ⟨rfl, _⟩ | ⟨a, len, cap, m, n', D, Pl, rfl, _, hl, hm, hmm, _, hx⟩
 ·exact ⟨[], ⟨none, 0, rfl, Nat.le_refl _, Kd.C_nil _ _⟩, by simp [maxLen], fun x hx => by cases hx⟩
 ·obtain ⟨ys, hyl, hy⟩ := pick (p := fun i y => ∃ c, c.length = d.sz ∧ d.K W y c ∧ G y ∧ ∀ j u, c[j]? = some u → W.cell? (a.add (i * d.sz + j)) = some u) len (fun i hi => by
   have him : i < m := by rw [hmm]; split <;> omega
   obtain ⟨c, h1, h2⟩ := hx i him
   obtain ⟨y, hk, hg⟩ := ho h2
   obtain ⟨_, hcl, hcell⟩ := World.cells?_some h1
   rw [hc] at hcl hcell
   refine ⟨y, c, hcl, hk, hg, fun j u hj => ?_⟩
   have hj' : j < d.sz := by rw [← hcl]; exact (List.getElem?_eq_some_iff.1 hj).1
   have := hcell j hj'
   rw [hj] at this
   rw [← this]
   congr 1
   have e0 : ∀ p q : Nat, (a.add p).add q = a.add (p + q) := by
    intro p q
    obtain ⟨b, o, s⟩ := a
    unfold Addr.add
    by_cases hp : p = 0
    ·subst hp; simp
    ·by_cases hq : q = 0
     ·subst hq; simp [hp]
     ·simp [hp, hq]; omega
   rw [e0])
  refine ⟨ys, ⟨some a, cap, by rw [hyl], by omega, rfl, by rw [hyl]; unfold maxLen at hm; omega, fun h0 => ⟨a, rfl, fun j p hj => ?_⟩⟩, by rw [hyl]; omega, fun x hx => ?_⟩
  ·obtain ⟨c, h1, h2, _, h3⟩ := hy j p hj
   exact ⟨c, h1, h2, h3⟩
  ·obtain ⟨i, hi⟩ := List.getElem?_of_mem hx
   obtain ⟨c, _, _, h, _⟩ := hy i x hi
   exact h
def OpAt (P : Program) (W : World) (fs : List (TypeId × Nat)) (off : Nat) {α : Type} (d : Kd α) (G : α → Prop) : Prop :=
 ∀ {H : Type} {enc : TypeId × Value → H} {base : Nat} {spare : Nat → Bool} {held : Bool} {n : Nat} {cs : List Value}, cs.length = off + d.sz →
  (∀ f ∈ fs, ∃ x, DataW.trod enc P W base spare held n f.1 ((cs.drop f.2).take (P.cellsOf f.1)) = some x) → ∃ y : α, d.K W y (cs.drop off) ∧ G y
theorem opAt_one {off : Nat} {α : Type} {d : Kd α} {G : α → Prop} (hc : P.cellsOf e = d.sz) (h : Opn P W e d G) : OpAt P W [(e, off)] off d G := by
 intro H enc base spare held n cs hl hf
 obtain ⟨x, hx⟩ := hf (e, off) (List.mem_singleton.2 rfl)
 dsimp only at hx
 rw [hc, List.take_of_length_le (by rw [List.length_drop]; omega)] at hx
 exact h hx
theorem opAt_cons {off : Nat} {fs : List (TypeId × Nat)} {α β : Type} {d1 : Kd α} {d2 : Kd β} {G1 : α → Prop} {G2 : β → Prop} (hc : P.cellsOf e = d1.sz) (h1 : Opn P W e d1 G1) (h2 : OpAt P W fs (off + d1.sz) d2 G2) :
  OpAt P W ((e, off) :: fs) off (Kd.pair d1 d2) (fun y => G1 y.1 ∧ G2 y.2) := by
 intro H enc base spare held n cs hl hf
 have hl' : cs.length = off + (d1.sz + d2.sz) := hl
 obtain ⟨x, hx⟩ := hf (e, off) List.mem_cons_self
 dsimp only at hx
 rw [hc] at hx
 obtain ⟨y1, hk1, hg1⟩ := h1 hx
 obtain ⟨y2, hk2, hg2⟩ := h2 (cs := cs) (by omega) (fun f hf' => hf f (List.mem_cons_of_mem _ hf'))
 refine ⟨(y1, y2), ⟨(cs.drop off).take d1.sz, cs.drop (off + d1.sz), ?_, hk1, hk2⟩, hg1, hg2⟩
 rw [← List.drop_drop, List.take_append_drop]
theorem op_struct {fs : Array Field} {L : List (TypeId × Nat)} {α β : Type} {d : Kd α} {f : β → α} {g : α → β} {G : α → Prop} (ht : P.underlying t = some (.struct fs)) (hL : fs.toList.map (fun f => (f.type, f.offset)) = L) (hc : P.cellsOf t = d.sz) (hfg : ∀ y, f (g y) = y)
  (h : OpAt P W L 0 d G) : Opn P W t (Kd.iso d f) (fun x => G (f x)) := by
 intro H enc base spare held n cs x hx
 obtain ⟨xs, m, _, _, hl, hxl, hf⟩ := DataW.trod_struct ht hx
 obtain ⟨y, hk, hg⟩ := h (cs := cs) (n := m) (enc := enc) (base := base) (spare := spare) (held := held) (by rw [hl, hc]; omega) (fun q hq => by
  rw [← hL] at hq
  obtain ⟨fd, hfd, rfl⟩ := List.mem_map.1 hq
  obtain ⟨i, hi⟩ := List.getElem?_of_mem hfd
  rw [Array.getElem?_toList] at hi
  have hlt : i < xs.length := by
   have := (Array.getElem?_eq_some_iff.1 hi).1
   omega
  exact ⟨xs[i], by rw [hf i fd hi]; exact List.getElem?_eq_getElem hlt⟩)
 rw [List.drop_zero] at hk
 refine ⟨g y, ?_, ?_⟩
 ·show d.K W (f (g y)) cs
  rw [hfg]; exact hk
 ·show G (f (g y))
  rw [hfg]; exact hg
end
end Go.Proofs.Ytpbepgffbcfaoaa.RO
end
