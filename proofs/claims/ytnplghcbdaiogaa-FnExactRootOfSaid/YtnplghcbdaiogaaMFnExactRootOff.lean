/- For the law FnExactRootOf (laid by merge.py). -/
import Derived.Test.YtnplghcbdaiogaaMFnExactRootOfe
import Derived.Deep.Slices
import Derived.ChangeArms
import Derived.DataReads
section
namespace Go.Proofs.Ytnplghcbdaiogaa.QZ
open Go.RowKit Go.Proofs.YtnplghcbdaiogaaW.PrintWords Go.Proofs.YtnplghcbdaiogaaW.PrintLast Go.Proofs.YtnplghcbdaiogaaW.PrintMore Go.Proofs.Ytnplghcbdaiogaa.PB Go.Proofs.Ytnplghcbdaiogaa.PD Go.Proofs.Ytnplghcbdaiogaa.PK Go.Proofs.Ytnplghcbdaiogaa.PL Go.Proofs.Ytnplghcbdaiogaa.PT Go.Proofs.Ytnplghcbdaiogaa.PU Go.Proofs.Ytnplghcbdaiogaa.PG Go.Proofs.Ytnplghcbdaiogaa.PW Go.Proofs.Ytnplghcbdaiogaa.QW Go.Proofs.Ytnplghcbdaiogaa.PA Go.Proofs.Ytnplghcbdaiogaa.QP Go.Proofs.Ytnplghcbdaiogaa.QO Go.Proofs.Ytnplghcbdaiogaa.QQ
set_option linter.unusedVariables false
def isK (s : ByteArray) : Bool := decide (1 ≤ (s.size : Int) ∧ (s.size : Int) ≤ 12)
def isV (s : ByteArray) : Bool := decide ((s.size : Int) ≤ 12)
def risesB : List ByteArray → Bool
 | a :: b :: l => Op.bytesLess a.toList b.toList && risesB (b :: l)
 | _ => true
def pairsB (K V : List ByteArray) : Bool := decide (K.length ≤ 40) && (K.all isK && (risesB K && V.all isV))
def goodB (t : T) : Bool := pairsB (keysT t) (valsT t) && ((levT t).isSome && (t.f2.isEmpty || decide (0 < t.f0.length)))
def treeG (ps : List S97) (n : Nat) : Option T := match readF ps n 0 with
 | none => none
 | some (t, nx) => if nx = ps.length ∧ goodB t = true then some t else none
def rootF (ps : List S97) : ByteArray × Bool := match treeG ps 10 with
 | none => (⟨#[]⟩, false)
 | some t => (digT t, true)
def smlB (ps : List S97) : Bool := decide (ps.length < 1099511627776) && ps.all fun p => decide (p.f0.length < 1099511627776 ∧ p.f1.length < 1099511627776 ∧ p.f2.length < 1099511627776)
theorem smlB_iff (ps : List S97) : smlB ps = true ↔ Sml ps := by
 unfold smlB Sml
 rw [Bool.and_eq_true, decide_eq_true_iff, List.all_eq_true]
 constructor
 ·rintro ⟨h1, h2⟩
  exact ⟨h1, fun p hp => of_decide_eq_true (h2 p hp)⟩
 ·rintro ⟨h1, h2⟩
  exact ⟨h1, fun p hp => decide_eq_true (h2 p hp)⟩
theorem rises_iff : ∀ K : List ByteArray, risesB K = true ↔ ∀ i, i < K.length → risesAt K i := by
 intro K
 induction K with
 | nil => exact ⟨fun _ i h => absurd h (Nat.not_lt_zero i), fun _ => by rw [risesB.eq_def]⟩
 | cons a K ih =>
  cases K with
  | nil => exact ⟨fun _ i h hp => by simp only [List.length_cons, List.length_nil] at h; omega, fun _ => by rw [risesB.eq_def]⟩
  | cons b l =>
   rw [risesB, Bool.and_eq_true, ih]
   constructor
   ·rintro ⟨h1, h2⟩ i hi hp
    match i, hp with
    | 1, _ => exact h1
    | i + 2, _ =>
     have := h2 (i + 1) (by simp only [List.length_cons] at hi ⊢; omega) (by omega)
     exact this
   ·intro h
    refine ⟨h 1 (by simp only [List.length_cons]; omega) (by omega), fun i hi hp => ?_⟩
    have := h (i + 1) (by simp only [List.length_cons] at hi ⊢; omega) (by omega)
    match i, hp with
    | i + 1, _ => exact this
theorem pairs_iff (K V : List ByteArray) : pairsB K V = true ↔ K.length ≤ 40 ∧ (∀ i, i < K.length → keyB (tx K i) = true ∧ risesAt K i) ∧ V.all valB = true := by
 unfold pairsB
 rw [Bool.and_eq_true, Bool.and_eq_true, Bool.and_eq_true, decide_eq_true_iff, rises_iff]
 constructor
 ·rintro ⟨h1, h2, h3, h4⟩
  exact ⟨h1, fun i hi => ⟨(all_at K keyB).1 h2 i hi, h3 i hi⟩, h4⟩
 ·rintro ⟨h1, h2, h3⟩
  exact ⟨h1, (all_at K keyB).2 (fun i hi => (h2 i hi).1), fun i hi => (h2 i hi).2, h3⟩
theorem pairs_two (K V : List ByteArray) (hl : V.length = K.length) : pairsB K V = ch (K.length ≤ 40 ∧ V.length = K.length ∧ (∀ i, i < K.length → keyB (tx K i) = true ∧ risesAt K i) ∧ V.all valB = true) := by
 by_cases h : pairsB K V = true
 ·obtain ⟨h1, h2, h3⟩ := (pairs_iff K V).1 h
  rw [h, ch_yes ⟨h1, hl, h2, h3⟩]
 ·rw [Bool.eq_false_iff.2 h, ch_no (fun ⟨h1, _, h2, h3⟩ => h ((pairs_iff K V).2 ⟨h1, h2, h3⟩))]
theorem pairs_sm (t : T) (h : pairsB (keysT t) (valsT t) = true) : smT t := by
 obtain ⟨h1, h2, h3⟩ := (pairs_iff _ _).1 h
 unfold pairsB at h
 rw [Bool.and_eq_true, Bool.and_eq_true, Bool.and_eq_true] at h
 refine ⟨fun s hs => ?_, fun s hs => ?_⟩
 ·have := of_decide_eq_true (List.all_eq_true.1 h.2.1 s hs)
  omega
 ·have := of_decide_eq_true (List.all_eq_true.1 h.2.2.2 s hs)
  omega
theorem readK_imp {rd rd' : Nat → Option (T × Nat)} (h : ∀ a r, rd a = some r → rd' a = some r) : ∀ (ks : List Int) (a : Nat) (r : List T × Nat), readK rd ks a = some r → readK rd' ks a = some r := by
 intro ks
 induction ks with
 | nil => intro a r hr; exact hr
 | cons k ks ih =>
  intro a r hr
  rw [readK] at hr ⊢
  by_cases c : k = (a : Int)
  ·rw [if_pos c] at hr ⊢
   cases h1 : rd a with
   | none => rw [h1] at hr; cases hr
   | some te =>
    obtain ⟨t, e⟩ := te
    rw [h1] at hr
    rw [h a _ h1]
    dsimp only at hr ⊢
    cases h2 : readK rd ks e with
    | none => rw [h2] at hr; cases hr
    | some le =>
     obtain ⟨l, e'⟩ := le
     rw [h2] at hr
     rw [ih e _ h2]
     exact hr
  ·rw [if_neg c] at hr; cases hr
theorem readF_mono (ps : List S97) : ∀ (n a : Nat) (r : T × Nat), readF ps n a = some r → readF ps (n + 1) a = some r := by
 intro n
 induction n with
 | zero => intro a r h; cases h
 | succ n ih =>
  intro a r h
  rw [readF] at h ⊢
  cases hp : ps[a]? with
  | none => rw [hp] at h; cases h
  | some p =>
   rw [hp] at h
   dsimp only at h ⊢
   by_cases c : okP p
   ·rw [if_pos c] at h ⊢
    cases hk : readK (readF ps n) p.f2 (a + 1) with
    | none => rw [hk] at h; cases h
    | some le =>
     rw [hk] at h
     rw [readK_imp ih _ _ _ hk]
     exact h
   ·rw [if_neg c] at h; cases h
theorem readF_up (ps : List S97) (n m a : Nat) (r : T × Nat) (hm : n ≤ m) (h : readF ps n a = some r) : readF ps m a = some r := by
 induction m with
 | zero => rw [show n = 0 by omega] at h; exact h
 | succ m ih =>
  by_cases c : n = m + 1
  ·rw [← c]; exact h
  ·exact readF_mono ps m a r (ih (by omega))
theorem readK_suff {rd rd' : Nat → Option (T × Nat)} {m : Nat} (hle : ∀ a t e, rd a = some (t, e) → a < e ∧ e ≤ m) : ∀ (ks : List Int) (a b : Nat), b ≤ a → a ≤ m → (∀ x, b ≤ x → x ≤ m → rd x = rd' x) → readK rd ks a = readK rd' ks a := by
 intro ks
 induction ks with
 | nil => intro a b _ _ _; rfl
 | cons k ks ih =>
  intro a b hb ha h
  rw [readK, readK]
  by_cases c : k = (a : Int)
  ·rw [if_pos c, if_pos c, ← h a hb ha]
   cases h1 : rd a with
   | none => rfl
   | some te =>
    obtain ⟨t, e⟩ := te
    have := hle a t e h1
    dsimp only
    rw [ih e b (by omega) (by omega) h]
  ·rw [if_neg c, if_neg c]
theorem readF_suff (ps : List S97) : ∀ (n a : Nat), a ≤ ps.length → ps.length ≤ a + n → readF ps (n + 1) a = readF ps n a := by
 intro n
 induction n with
 | zero =>
  intro a h0 h1
  have e : readF ps (0 + 1) a = none := by rw [readF, List.getElem?_eq_none (by omega)]
  rw [e]; rfl
 | succ n ih =>
  intro a h0 h1
  rw [readF, readF]
  cases hp : ps[a]? with
  | none => rfl
  | some p =>
   dsimp only
   have ha : a < ps.length := by
    rcases Nat.lt_or_ge a ps.length with h2 | h2
    ·exact h2
    ·rw [List.getElem?_eq_none h2] at hp; cases hp
   rw [readK_suff (rd := readF ps (n + 1)) (rd' := readF ps n) (readF_le ps (n + 1)) p.f2 (a + 1) (a + 1) (Nat.le_refl _) (by omega) (fun x h2 h3 => ih x h3 (by omega))]
theorem readF_far (ps : List S97) (m : Nat) : readF ps (ps.length + m) 0 = readF ps ps.length 0 := by
 induction m with
 | zero => rfl
 | succ m ih => rw [← ih]; exact readF_suff ps (ps.length + m) 0 (by omega) (by omega)
theorem readF_any (ps : List S97) (n : Nat) (r : T × Nat) (h : readF ps n 0 = some r) : readF ps ps.length 0 = some r := by
 rw [← readF_far ps n]
 exact readF_up ps n _ 0 r (by omega) h
theorem readK_lev {rd rd' : Nat → Option (T × Nat)} {d : Nat} (h : ∀ a t e, rd a = some (t, e) → levT t = some d → rd' a = some (t, e)) : ∀ (ks : List Int) (a : Nat) (l : List T) (e : Nat), readK rd ks a = some (l, e) → (∀ t ∈ l, levT t = some d) → readK rd' ks a = some (l, e) := by
 intro ks
 induction ks with
 | nil => intro a l e hr _; exact hr
 | cons k ks ih =>
  intro a l e hr hl
  rw [readK] at hr ⊢
  by_cases c : k = (a : Int)
  ·rw [if_pos c] at hr ⊢
   cases h1 : rd a with
   | none => rw [h1] at hr; cases hr
   | some te =>
    obtain ⟨t, e1⟩ := te
    rw [h1] at hr
    dsimp only at hr
    cases h2 : readK rd ks e1 with
    | none => rw [h2] at hr; cases hr
    | some le =>
     obtain ⟨l1, e'⟩ := le
     rw [h2] at hr
     simp only [Option.some.injEq, Prod.mk.injEq] at hr
     obtain ⟨rfl, rfl⟩ := hr
     rw [h a t e1 h1 (hl t List.mem_cons_self)]
     dsimp only
     rw [ih e1 l1 e' h2 (fun u hu => hl u (List.mem_cons_of_mem _ hu))]
  ·rw [if_neg c] at hr; cases hr
theorem lev_kids {t : T} {d : Nat} (h : levT t = some d) : t.f2 = [] ∧ d = 1 ∨ ∃ e, d = e + 1 ∧ t.f2 ≠ [] ∧ ∀ u ∈ t.f2, levT u = some e ∧ 2 ≤ u.f0.length := by
 rw [levT_eq] at h
 cases hl : t.f2 with
 | nil => rw [hl, levH] at h; injection h with h; exact .inl ⟨rfl, h.symm⟩
 | cons a l =>
  rw [hl, levH_eq] at h
  cases ha : levT a with
  | none => rw [ha] at h; cases h
  | some e =>
   rw [ha] at h
   dsimp only at h
   by_cases c : levL e (a :: l) = true
   ·rw [if_pos c] at h
    injection h with h
    exact .inr ⟨e, h.symm, by simp, (levL_iff e _).1 c⟩
   ·rw [if_neg c] at h; cases h
theorem readF_lev (ps : List S97) : ∀ (n a : Nat) (t : T) (e d : Nat), readF ps n a = some (t, e) → levT t = some d → readF ps d a = some (t, e) := by
 intro n
 induction n with
 | zero => intro a t e d h _; cases h
 | succ n ih =>
  intro a t e d h hd
  obtain ⟨p, l, hp, hok, hk, rfl⟩ := readF_open ps n a t e h
  rcases lev_kids hd with ⟨h1, rfl⟩ | ⟨d', rfl, h1, h2⟩
  ·have hl : p.f2 = [] := by
    have := readK_len _ _ _ _ hk
    rw [show l = [] from h1] at this
    exact List.eq_nil_of_length_eq_zero this.symm
   rw [readF, hp]
   dsimp only
   rw [if_pos hok, hl, readK]
   rw [hl, readK] at hk
   simp only [Option.some.injEq, Prod.mk.injEq] at hk
   rw [hk.1, hk.2]
  ·rw [readF, hp]
   dsimp only
   rw [if_pos hok, readK_lev (rd' := readF ps d') (fun a t e q1 q2 => ih a t e d' q1 q2) _ _ _ _ hk (fun u hu => (h2 u hu).1)]
theorem wvK_sum : ∀ (l : List T) (K : List ByteArray), (wvK l K).length = (l.map fun t => (keysT t).length).sum + K.length := by
 intro l
 induction l with
 | nil => intro K; rw [wvK_nil]; simp
 | cons t l ih =>
  intro K
  cases K with
  | nil => rw [wvK, List.length_append, ih, List.map_cons, List.sum_cons]; simp
  | cons k K => rw [wvK, List.length_append, List.length_cons, ih, List.map_cons, List.sum_cons, List.length_cons]; omega
theorem sum_ge (l : List T) (b : Nat) (h : ∀ t ∈ l, b ≤ (keysT t).length) : l.length * b ≤ (l.map fun t => (keysT t).length).sum := by
 induction l with
 | nil => simp
 | cons a l ih =>
  have h1 := h a List.mem_cons_self
  have h2 := ih (fun t ht => h t (List.mem_cons_of_mem _ ht))
  rw [List.length_cons, List.map_cons, List.sum_cons, Nat.succ_mul]
  omega
theorem many : ∀ (d : Nat) (t : T), okT t → levT t = some d → 2 ≤ t.f0.length → 5 * d ≤ (keysT t).length + 3 := by
 intro d
 induction d with
 | zero => intro t _ _ _; omega
 | succ d ih =>
  intro t hok hl h2
  obtain ⟨o1, o2, o3, o4⟩ := (okT_eq t).1 hok
  rw [keysT_eq, wvK_sum]
  rcases lev_kids hl with ⟨h1, h3⟩ | ⟨e, h1, h3, h4⟩
  ·rw [h1]; simp; omega
  ·obtain rfl : d = e := by omega
   have hn : t.f2.length ≠ 0 := fun h => h3 (List.eq_nil_of_length_eq_zero h)
   have := sum_ge t.f2 (5 * d - 3) (fun u hu => by have := ih u (o4 u hu) (h4 u hu).1 (h4 u hu).2; omega)
   have h5 : 3 ≤ t.f2.length := by omega
   have h6 : 3 * (5 * d - 3) ≤ t.f2.length * (5 * d - 3) := Nat.mul_le_mul_right _ h5
   rcases Nat.eq_zero_or_pos d with hz | hz
   ·subst hz; omega
   ·omega
theorem good_deep {t : T} {d : Nat} (hok : okT t) (hg : goodB t = true) (hd : levT t = some d) : d ≤ 10 := by
 unfold goodB at hg
 rw [Bool.and_eq_true, Bool.and_eq_true] at hg
 obtain ⟨hp, _, hr⟩ := hg
 obtain ⟨h40, _⟩ := (pairs_iff _ _).1 hp
 rw [keysT_eq, wvK_sum] at h40
 obtain ⟨o1, o2, o3, o4⟩ := (okT_eq t).1 hok
 rcases lev_kids hd with ⟨h1, h3⟩ | ⟨e, h1, h3, h4⟩
 ·omega
 ·have hn : t.f2.length ≠ 0 := fun h => h3 (List.eq_nil_of_length_eq_zero h)
  have he : t.f2.isEmpty = false := by cases hq : t.f2 with | nil => exact absurd hq h3 | cons a l => rfl
  rw [he, Bool.false_or] at hr
  have hr := of_decide_eq_true hr
  have := sum_ge t.f2 (5 * e - 3) (fun u hu => by have := many e u (o4 u hu) (h4 u hu).1 (h4 u hu).2; omega)
  have h5 : 2 ≤ t.f2.length := by omega
  have h6 : 2 * (5 * e - 3) ≤ t.f2.length * (5 * e - 3) := Nat.mul_le_mul_right _ h5
  omega
theorem treeG_len (ps : List S97) : treeG ps ps.length = treeG ps 10 := by
 unfold treeG
 cases h10 : readF ps 10 0 with
 | some r => rw [readF_any ps 10 r h10]
 | none =>
  cases hl : readF ps ps.length 0 with
  | none => rfl
  | some r =>
   obtain ⟨t, nx⟩ := r
   dsimp only
   rw [if_neg]
   rintro ⟨h1, h2⟩
   have hok := (readF_ok ps _ _ _ _ hl).1
   have h3 := h2
   unfold goodB at h3
   rw [Bool.and_eq_true, Bool.and_eq_true] at h3
   obtain ⟨d, hd⟩ := Option.isSome_iff_exists.1 h3.2.1
   have := readF_up ps d 10 0 _ (good_deep hok h2 hd) (readF_lev ps _ _ _ _ d hl hd)
   rw [h10] at this
   cases this
end Go.Proofs.Ytnplghcbdaiogaa.QZ
end
section
namespace Go.Proofs.Ytnplghcbdaiogaa.QX
open Go.RowKit Go.Proofs.YtnplghcbdaiogaaW.PrintWords Go.Proofs.YtnplghcbdaiogaaW.PrintLast Go.Proofs.YtnplghcbdaiogaaW.PrintMore Go.Proofs.Ytnplghcbdaiogaa.PA Go.Proofs.Ytnplghcbdaiogaa.QW
attribute [local go_sem] max2_int min2_int max_two min_two max_three min_three max_four min_four
set_option linter.unusedVariables false
set_option maxHeartbeats 4000000
set_option maxRecDepth 100000
def Post95 (n : Nat) (w : World) (R : Option (T × Nat)) (e : Ending) (w' : World) : Prop := match R with
 | none => e = .returned (.tuple #[.pointer none, .int .i64 (-1)]) ∧ Below w.heap.size w w'
 | some (t, nx) => ∃ x : S95, e = .returned (.tuple #[.pointer (some ⟨x.adr, 0, none⟩), .int .i64 (nx : Int)]) ∧ er95 x = t ∧ k95p.M w' w.heap.size (fun _ => True) x [.pointer (some ⟨x.adr, 0, none⟩)] ∧ Below w.heap.size w w'
def readS.T4 : Bool × List (List Nat × List Nat) := (true, [([], []), ([], []), ([1], [1]), ([0, 2], [0, 2]), ([], []), ([], []), ([5], [5]), ([4, 6, 3], [4, 6]), ([3, 7], [3, 7]), ([8], [8]), ([9, 7, 0, 1, 2, 3, 4, 5, 6, 7, 8, 9], [9])])
def readS.B4 : List Nat := [0, 0, 2, 7, 0, 0, 32, 127, 255, 511, 1023]
theorem readS.tab4 : rtab .any (opsOf Try.f54 4) = readS.T4 := by kernel_rfl
theorem readS.bits4 : waitsOk readS.T4.2 readS.B4 = true := by kernel_rfl
theorem readS (ps : List S97) (hG : Sml ps) (A : Option Addr) (c : Nat) (hc : ps.length ≤ c) : ∀ (n at_ : Nat) (dp : Int) (w : World), (n : Int) + dp = 11 → 0 ≤ dp → Kd.C k97 w A ps.length ps →
  Calls Try.prog 54 #[.agg #[.slice A ps.length c], .int .i64 (at_ : Int), .int .i64 dp] w fun e w' => Post95 n w (readF ps n at_) e w' := by
 intro n
 induction n with
 | zero =>
  intro at_ dp w hn hd hC
  have HG := zA hG
  have HC := zA hC
  have HB := zA (Below.refl w.heap.size w)
  clear hG hC
  have hu30 := Try.underlying30
  have b2 : decide (10 < dp) = true := decide_eq_true (by omega)
  have b3 : decide (dp > 10) = true := decide_eq_true (by omega)
  have R := zA (show readF ps 0 at_ = none from rfl)
  by_cases h : at_ < ps.length
  ·have b1 : decide ((ps.length : Int) ≤ (at_ : Int)) = false := decide_eq_false (by omega)
   go_enter Try.func54, Try.ntmps54
   go_wp2_with (first | ((with_reducible refine gate_dst (N := 3) rfl ?_); refine box_event ?hg (N := 3) ?hd (cs := #[.slice A ps.length c]) (t := 30) ?hr ?_; (case hd => rfl); (case hg => rfl); (case hr => first | (go_simp; done) | (go_simp; rfl)); intro gb3 hg w3 hbox hb; have n0_ := zA (zAD HB.out hb); have BK3 := zA hbox; have GW3 := zA (by rw [hg]; exact Nat.le_refl _ : w.heap.size ≤ gb3); clear HB; have HB := n0_; clear n0_ hb hbox hg; have hx3 : w3.cell? ⟨gb3, 0, none⟩ = some (.slice A ps.length c) := (zP BK3.out 0).trans rfl))
   go_ret2
   exact (show Post95 0 w (readF ps 0 at_) _ _ from (by rw [R.out]; exact ⟨by first | rfl | (simp <;> rfl), HB.out⟩))
  ·have b1 : decide ((ps.length : Int) ≤ (at_ : Int)) = true := decide_eq_true (by omega)
   go_enter Try.func54, Try.ntmps54
   go_wp2_with (first | ((with_reducible refine gate_dst (N := 3) rfl ?_); refine box_event ?hg (N := 3) ?hd (cs := #[.slice A ps.length c]) (t := 30) ?hr ?_; (case hd => rfl); (case hg => rfl); (case hr => first | (go_simp; done) | (go_simp; rfl)); intro gb3 hg w3 hbox hb; have n0_ := zA (zAD HB.out hb); have BK3 := zA hbox; have GW3 := zA (by rw [hg]; exact Nat.le_refl _ : w.heap.size ≤ gb3); clear HB; have HB := n0_; clear n0_ hb hbox hg; have hx3 : w3.cell? ⟨gb3, 0, none⟩ = some (.slice A ps.length c) := (zP BK3.out 0).trans rfl))
   go_ret2
   exact (show Post95 0 w (readF ps 0 at_) _ _ from (by rw [R.out]; exact ⟨by first | rfl | (simp <;> rfl), HB.out⟩))
 | succ n ih =>
  intro at_ dp w hn hd hC
  have HG := zA hG
  have HC := zA hC
  have HB := zA (Below.refl w.heap.size w)
  have hu30 := Try.underlying30
  have hu97 := Try.underlying97
  have hu95 := Try.underlying95
  have b2 : decide (10 < dp) = false := decide_eq_false (by omega)
  have b3 : decide (dp > 10) = false := decide_eq_false (by omega)
  by_cases h : at_ < ps.length
  ·obtain ⟨z, hz⟩ : ∃ z : Int, z = (at_ : Int) := ⟨_, rfl⟩
   rw [← hz]
   have b1 : decide ((ps.length : Int) ≤ z) = false := decide_eq_false (by omega)
   have b4 : decide (z < (ps.length : Int)) = true := decide_eq_true (by omega)
   have b5 : decide (0 ≤ z) = true := decide_eq_true (by omega)
   have b6 : (0 ≤ z) = True := eq_true (by omega)
   have b7 : (z < (ps.length : Int)) = True := eq_true (by omega)
   obtain ⟨ad, A0, c0, A1, c1, A2, c2, eA, hy0, hy1, hy2, l0, g0, l1, g1, l2, g2⟩ := at_T97 hC z (by omega) (by omega)
   subst eA
   have ep : ps[at_]? = some (rd_T97 ps z) := by
    unfold rd_T97
    rw [hz, Int.toNat_natCast, List.getD_eq_getElem?_getD, List.getElem?_eq_getElem h]; rfl
   obtain ⟨p, hp⟩ : ∃ p, p = rd_T97 ps z := ⟨_, rfl⟩
   rw [← hp] at ep hy0 hy1 hy2 l0 g0 l1 g1 l2 g2
   have HZ := zA hz
   have HH := zA h
   clear hz h
   have HP := zA ep
   have HX0 := zA hy0
   have HX1 := zA hy1
   have HX2 := zA hy2
   have HL0 := zA l0
   have HR0 := zA g0
   have HL1 := zA l1
   have HR1 := zA g1
   have HL2 := zA l2
   have HR2 := zA g2
   clear hp ep hy0 hy1 hy2 l0 g0 l1 g1 l2 g2 hG hC
   go_enter Try.func54, Try.ntmps54
   go_wp2_with (first | ((with_reducible refine gate_dst (N := 3) rfl ?_); refine box_event ?hg (N := 3) ?hd (cs := #[.slice (some ad) ps.length c]) (t := 30) ?hr ?_; (case hd => rfl); (case hg => rfl); (case hr => first | (go_simp; done) | (go_simp; rfl)); intro gb3 hg w3 hbox hb; have n0_ := zA (zAD HB.out hb); have BK3 := zA hbox; have GW3 := zA (by rw [hg]; exact Nat.le_refl _ : w.heap.size ≤ gb3); clear HB; have HB := n0_; clear n0_ hb hbox hg; have hx3 : w3.cell? ⟨gb3, 0, none⟩ = some (.slice (some ad) ps.length c) := (zP BK3.out 0).trans rfl; have hx0 := (HB.out.cell (zB w _ HX0.out)).trans HX0.out; have hx1 := (HB.out.cell (zB w _ HX1.out)).trans HX1.out; have hx2 := (HB.out.cell (zB w _ HX2.out)).trans HX2.out))
   obtain ⟨gb8, hg8⟩ : ∃ g, g = w3.heap.size := ⟨_, rfl⟩
   obtain ⟨w4, hw4⟩ : ∃ z, z = w3.alloc (Obj.cells #[.slice A0 p.f0.length c0, .slice A1 p.f1.length c1, .slice A2 p.f2.length c2] 97 (0, 0)) := ⟨_, rfl⟩
   have BK8 := zA (show w4.drew.heap[gb8]? = some (.cells #[.slice A0 p.f0.length c0, .slice A1 p.f1.length c1, .slice A2 p.f2.length c2] 97 (0, 0)) from by rw [hw4, hg8]; exact zN (blk_new _ _))
   have GW8 := zA (show w.heap.size ≤ gb8 from by rw [hg8]; exact zAE HB.out)
   have n0_ := zA (show w4.drew.heap[gb3]? = some (.cells #[.slice (some ad) ps.length c] 30 (0, 0)) from by rw [hw4]; exact zN (zM BK3.out _))
   have n1_ := zA (show Below w.heap.size w w4.drew from by rw [hw4]; exact zG (zH HB.out _))
   rw [← hg8, ← hw4]
   clear BK3 HB hx3 hx0 hx1 hx2 hg8 hw4
   have BK3 := n0_
   have HB := n1_
   clear n0_ n1_
   refine start_ (n := 11) (S := fun w' => w'.cell? ⟨gb8, 0, none⟩ = some (.slice A0 p.f0.length c0) ∧ w'.cell? ⟨gb8, 1, none⟩ = some (.slice A1 p.f1.length c1)) (ds := []) #[false, false, false, false, false, false, false, false, false, false, false] (by kernel_rfl) rfl rfl ⟨(zP BK8.out 0).trans rfl, (zP BK8.out 1).trans rfl⟩ (fun hHeld => ?_)
   refine with_tabW readS.tab4 readS.bits4 (fun HT_ HW_ => ?_)
   generalize w4.drew = w5 at BK3 BK8 HB hHeld ⊢
   refine pure_ (i := 1) (N := some 30) (v := ?_) (a' := ?_) #[false, true, false, false, false, false, false, false, false, false, false] rfl rfl (any_of HT_.out (by kernel_rfl)) (fun _ _ _ h => h) (Or.inl ⟨by rfl, ?_⟩) ?_ ?_; rotate_left
   ·intro w'
    go_simp
    with_reducible rfl
   rotate_left
   ·simp only [Act.put, zC, zD, zE, i64_w, i32_w]
    rfl
   refine pure_ (i := 5) (N := some 34) (v := ?_) (a' := ?_) #[false, true, false, false, false, true, false, false, false, false, false] rfl rfl (any_of HT_.out (by kernel_rfl)) (fun _ _ _ h => h) (Or.inl ⟨by rfl, ?_⟩) ?_ ?_; rotate_left
   ·intro w'
    go_simp
    with_reducible rfl
   rotate_left
   ·simp only [Act.put, zC, zD, zE, i64_w, i32_w]
    rfl
   refine take_ (i := 2) (N := some 31) (v := ?_) (a' := ?_) #[false, true, true, false, false, true, false, false, false, false, false] rfl rfl (take_ofW HT_.out HW_.out (by kernel_rfl)) (fun _ _ _ h => h) (Or.inl ⟨by rfl, ?_⟩) hHeld ?_ ?_; rotate_left
   ·rintro w' ⟨s0, s1⟩
    go_simp
    with_reducible rfl
   rotate_left
   ·simp only [Act.put, zC, zD, zE, i64_w, i32_w]
    rfl
   refine take_ (i := 6) (N := some 35) (v := ?_) (a' := ?_) #[false, true, true, false, false, true, true, false, false, false, false] rfl rfl (take_ofW HT_.out HW_.out (by kernel_rfl)) (fun _ _ _ h => h) (Or.inl ⟨by rfl, ?_⟩) hHeld ?_ ?_; rotate_left
   ·rintro w' ⟨s0, s1⟩
    go_simp
    with_reducible rfl
   rotate_left
   ·simp only [Act.put, zC, zD, zE, i64_w, i32_w]
    rfl
   have HLN := zA (show p.f0.length < 1099511627776 ∧ p.f1.length < 1099511627776 ∧ p.f2.length < 1099511627776 from HG.out.2 p (List.mem_of_getElem? HP.out))
   refine join_ (σ := Value × Value × Value) 4 #[true, true, true, true, true, true, true, false, false, false, false] (fun s_ => [(29, s_.1), (32, s_.2.1), (33, s_.2.2)]) (fun s_ w' => (w'.cell? ⟨gb8, 0, none⟩ = some (.slice A0 p.f0.length c0) ∧ w'.cell? ⟨gb8, 1, none⟩ = some (.slice A1 p.f1.length c1)) ∧ Kd.R Kd.string 9 w' w.heap.size (fun k_ => some k_ ≠ (s_.2.2 : Value).ownBlock) s_.2.1 p.f0 ∧ Kd.R Kd.string 9 w' w.heap.size (fun _ => True) s_.2.2 [] ∧ (w'.heap[gb3]? = some (.cells #[.slice (some ad) ps.length c] 30 (0, 0))) ∧ (w'.heap[gb8]? = some (.cells #[.slice A0 p.f0.length c0, .slice A1 p.f1.length c1, .slice A2 p.f2.length c2] 97 (0, 0))) ∧ Below w.heap.size w w') ?_ ?_; rotate_left
   ·intro hJ1
    refine join_ (σ := Value × Value) 5 #[true, true, true, false, true, true, true, false, false, false, false] (fun s_ => [(29, s_.1), (33, s_.2)]) (fun s_ w' => (w'.cell? ⟨gb8, 0, none⟩ = some (.slice A0 p.f0.length c0) ∧ w'.cell? ⟨gb8, 1, none⟩ = some (.slice A1 p.f1.length c1)) ∧ Kd.R Kd.string 9 w' w.heap.size (fun k_ => some k_ ≠ (s_.2 : Value).ownBlock) s_.1 [] ∧ Kd.R Kd.string 9 w' w.heap.size (fun k_ => some k_ ≠ (s_.1 : Value).ownBlock) s_.2 [] ∧ (w'.heap[gb3]? = some (.cells #[.slice (some ad) ps.length c] 30 (0, 0))) ∧ (w'.heap[gb8]? = some (.cells #[.slice A0 p.f0.length c0, .slice A1 p.f1.length c1, .slice A2 p.f2.length c2] 97 (0, 0))) ∧ Below w.heap.size w w') ?_ ?_; rotate_left
    ·intro hJ2
     refine two_ (i := 0) (j := 4) (Ni := some 29) (Nj := some 33) #[true, true, true, false, false, true, true, false, false, false, false] #[false, true, true, false, true, true, true, false, false, false, false] rfl rfl rfl rfl (two_of HT_.out (by kernel_rfl)) (by decide) (by decide) (fun K hK => ?_) (fun K hK => ?_)
     ·skip
      refine Kd.R_lit_step Kd.string _ 9 ?hg (N := 29) ?hd (xs := ([] : List ByteArray)) (inner := []) (ok := fun _ => True) (okp := fun _ => True) ?hr ?hp (fun _ hk => hk) trivial (Below.refl _ _) (Nat.le_refl _) (by simp) ?_; (case hd => rfl); (case hg => rfl); (case hr => first | (go_simp; done) | (go_simp; rfl)); (case hp => exact (Reps.none _ _)); intro v29 w6 ho hb hg_ hnew_; clear hg_ hnew_
      have n0_ := zA (Kd.R_lower ho (zAE HB.out)); have n1_ := zA (blk_below BK3.out hb); have n2_ := zA (blk_below BK8.out hb); have n3_ := zA (zAD HB.out hb); clear BK3 BK8 HB ho hb; have BK3 := n1_; have BK8 := n2_; have HB := n3_; clear n1_ n2_ n3_
      have HO29 := n0_
      clear n0_
      refine hK.out _ _ ⟨(zP BK8.out 0).trans rfl, (zP BK8.out 1).trans rfl⟩ (fun hHeld => ?_)
      clear hK K
      refine norm_ (a' := ?_) ?_ ?_; rotate_left
      ·show Act.put _ (some 29) _ = _
       simp only [Act.put, zC, zD, zE, i64_w, i32_w]; rfl
      refine two_ (i := 3) (j := 4) (Ni := some 32) (Nj := some 33) #[true, true, true, true, false, true, true, false, false, false, false] #[true, true, true, false, true, true, true, false, false, false, false] rfl rfl rfl rfl (two_of HT_.out (by kernel_rfl)) (by decide) (by decide) (fun K hK => ?_) (fun K hK => ?_)
      ·skip
       refine Kd.R_append_rows_step Kd.string (w0 := w) w.heap.size (by rfl) (.tmp 29) (.tmp 31) 41 9 (.string ⟨#[]⟩) 16 rfl Try.underlying41 info9 rfl (by decide) (by omega) v29 [] p.f0 A0 p.f0.length c0 (fun _ => True) (fun _ => False) rfl rfl ?aO ?aR (fun _ _ h => h) (fun _ h => h.elim) ?aF ?aB ?aS ?aL ?_
       (case aR => exact (Kd.C_below HR0.out HB.out)); (case aB => exact HB.out); (case aF => exact (fun _ _ => trivial)); (case aO => exact HO29.out); (case aS => exact (zAE HB.out)); (case aL => have := HLN.out; simp only [List.length_nil]; omega)
       intro v32 w7 ho hb hg hat
       rw [List.nil_append] at ho
       have n0_ := zA (blk_grown BK3.out hg (Kd.R_ne HO29.out BK3.out (by decide)))
       have n1_ := zA (blk_grown BK8.out hg (Kd.R_ne HO29.out BK8.out (by decide)))
       clear BK3 BK8 HB HO29
       have BK3 := n0_
       have BK8 := n1_
       have HB := zA hb
       have HO32 := zA ho
       clear n0_ n1_ hb ho hg hat
       refine hK.out _ _ ⟨(zP BK8.out 0).trans rfl, (zP BK8.out 1).trans rfl⟩ (fun hHeld => ?_)
       clear hK K
       refine norm_ (a' := ?_) ?_ ?_; rotate_left
       ·show Act.put _ (some 32) _ = _
        simp only [Act.put, zC, zD, zE, i64_w, i32_w]; rfl
       refine one_ (i := 4) (N := some 33) #[true, true, true, true, true, true, true, false, false, false, false] rfl rfl (one_of HT_.out (by kernel_rfl)) (by decide) (fun K hK => ?_)
       refine Kd.R_lit_step Kd.string _ 9 ?hg (N := 33) ?hd (xs := ([] : List ByteArray)) (inner := []) (ok := fun _ => True) (okp := fun _ => True) ?hr ?hp (fun _ hk => hk) trivial (Below.refl _ _) (Nat.le_refl _) (by simp) ?_; (case hd => rfl); (case hg => rfl); (case hr => first | (go_simp; done) | (go_simp; rfl)); (case hp => exact (Reps.none _ _)); intro v33 w8 ho hb hg_ hnew_; clear hg_ hnew_
       have m0_ := zA (Kd.R_elder' HO32.out (Kd.R_base ho) hb)
       have n0_ := zA (Kd.R_lower ho (zAE HB.out)); have n1_ := zA (blk_below BK3.out hb); have n2_ := zA (blk_below BK8.out hb); have n3_ := zA (zAD HB.out hb); clear BK3 BK8 HB ho hb; have BK3 := n1_; have BK8 := n2_; have HB := n3_; clear n1_ n2_ n3_
       have HO33 := n0_
       clear n0_ HO32
       have HO32 := m0_
       refine hK.out _ _ ⟨(zP BK8.out 0).trans rfl, (zP BK8.out 1).trans rfl⟩ (fun hHeld => ?_)
       clear hK K
       refine norm_ (a' := ?_) ?_ ?_; rotate_left
       ·show Act.put _ (some 33) _ = _
        simp only [Act.put, zC, zD, zE, i64_w, i32_w]; rfl
       exact norm_ (by simp only [putAll, Act.put, zC, zD, zE] <;> rfl) (hJ1 (v29, v32, v33) _ ⟨hHeld, Kd.R_mono HO32.out (fun _ hk => hk.2), HO33.out, BK3.out, BK8.out, HB.out⟩)
      ·skip
       refine Kd.R_lit_step Kd.string _ 9 ?hg (N := 33) ?hd (xs := ([] : List ByteArray)) (inner := []) (ok := fun _ => True) (okp := fun _ => True) ?hr ?hp (fun _ hk => hk) trivial (Below.refl _ _) (Nat.le_refl _) (by simp) ?_; (case hd => rfl); (case hg => rfl); (case hr => first | (go_simp; done) | (go_simp; rfl)); (case hp => exact (Reps.none _ _)); intro v33 w7 ho hb hg_ hnew_; clear hg_ hnew_
       have m0_ := zA (Kd.R_elder' HO29.out (Kd.R_base ho) hb)
       have m1_ := zA (Kd.R_lower (Kd.R_new' ho (Kd.R_lt HO29.out)) (zAE HB.out))
       have n0_ := zA (Kd.R_lower ho (zAE HB.out)); have n1_ := zA (blk_below BK3.out hb); have n2_ := zA (blk_below BK8.out hb); have n3_ := zA (zAD HB.out hb); clear BK3 BK8 HB ho hb; have BK3 := n1_; have BK8 := n2_; have HB := n3_; clear n1_ n2_ n3_
       clear n0_ HO29
       have HO29 := m0_
       have HO33 := m1_
       clear m0_ m1_
       refine hK.out _ _ ⟨(zP BK8.out 0).trans rfl, (zP BK8.out 1).trans rfl⟩ (fun hHeld => ?_)
       clear hK K
       refine norm_ (a' := ?_) ?_ ?_; rotate_left
       ·show Act.put _ (some 33) _ = _
        simp only [Act.put, zC, zD, zE, i64_w, i32_w]; rfl
       exact norm_ (by simp only [putAll, Act.put, zC, zD, zE] <;> rfl) (hJ2 (v29, v33) _ ⟨hHeld, Kd.R_mono HO29.out (fun _ hk => hk.2), Kd.R_mono HO33.out (fun _ hk => hk.2), BK3.out, BK8.out, HB.out⟩)
     ·skip
      refine Kd.R_lit_step Kd.string _ 9 ?hg (N := 33) ?hd (xs := ([] : List ByteArray)) (inner := []) (ok := fun _ => True) (okp := fun _ => True) ?hr ?hp (fun _ hk => hk) trivial (Below.refl _ _) (Nat.le_refl _) (by simp) ?_; (case hd => rfl); (case hg => rfl); (case hr => first | (go_simp; done) | (go_simp; rfl)); (case hp => exact (Reps.none _ _)); intro v33 w6 ho hb hg_ hnew_; clear hg_ hnew_
      have n0_ := zA (Kd.R_lower ho (zAE HB.out)); have n1_ := zA (blk_below BK3.out hb); have n2_ := zA (blk_below BK8.out hb); have n3_ := zA (zAD HB.out hb); clear BK3 BK8 HB ho hb; have BK3 := n1_; have BK8 := n2_; have HB := n3_; clear n1_ n2_ n3_
      have HO33 := n0_
      clear n0_
      refine hK.out _ _ ⟨(zP BK8.out 0).trans rfl, (zP BK8.out 1).trans rfl⟩ (fun hHeld => ?_)
      clear hK K
      refine norm_ (a' := ?_) ?_ ?_; rotate_left
      ·show Act.put _ (some 33) _ = _
       simp only [Act.put, zC, zD, zE, i64_w, i32_w]; rfl
      refine one_ (i := 0) (N := some 29) #[true, true, true, false, true, true, true, false, false, false, false] rfl rfl (one_of HT_.out (by kernel_rfl)) (by decide) (fun K hK => ?_)
      refine Kd.R_lit_step Kd.string _ 9 ?hg (N := 29) ?hd (xs := ([] : List ByteArray)) (inner := []) (ok := fun _ => True) (okp := fun _ => True) ?hr ?hp (fun _ hk => hk) trivial (Below.refl _ _) (Nat.le_refl _) (by simp) ?_; (case hd => rfl); (case hg => rfl); (case hr => first | (go_simp; done) | (go_simp; rfl)); (case hp => exact (Reps.none _ _)); intro v29 w7 ho hb hg_ hnew_; clear hg_ hnew_
      have m0_ := zA (Kd.R_elder' HO33.out (Kd.R_base ho) hb)
      have m1_ := zA (Kd.R_lower (Kd.R_new' ho (Kd.R_lt HO33.out)) (zAE HB.out))
      have n0_ := zA (Kd.R_lower ho (zAE HB.out)); have n1_ := zA (blk_below BK3.out hb); have n2_ := zA (blk_below BK8.out hb); have n3_ := zA (zAD HB.out hb); clear BK3 BK8 HB ho hb; have BK3 := n1_; have BK8 := n2_; have HB := n3_; clear n1_ n2_ n3_
      clear n0_ HO33
      have HO33 := m0_
      have HO29 := m1_
      clear m0_ m1_
      refine hK.out _ _ ⟨(zP BK8.out 0).trans rfl, (zP BK8.out 1).trans rfl⟩ (fun hHeld => ?_)
      clear hK K
      refine norm_ (a' := ?_) ?_ ?_; rotate_left
      ·show Act.put _ (some 29) _ = _
       simp only [Act.put, zC, zD, zE, i64_w, i32_w]; rfl
      exact norm_ (by simp only [putAll, Act.put, zC, zD, zE] <;> rfl) (hJ2 (v29, v33) _ ⟨hHeld, Kd.R_mono HO29.out (fun _ hk => hk.2), Kd.R_mono HO33.out (fun _ hk => hk.2), BK3.out, BK8.out, HB.out⟩)
    ·rintro ⟨v29, v33⟩ w6 ⟨hS, h29, h33, h3, h8, hb⟩
     clear BK3 BK8 HB hHeld
     have BK3 := zA h3
     have BK8 := zA h8
     have HB := zA hb
     have HO29 := zA h29
     have HO33 := zA h33
     have hHeld := hS
     clear h3 h8 hb h29 h33 hS
     refine norm_ (a' := ?_) ?_ ?_; rotate_left
     ·simp only [putAll, Act.put, zC, zD, zE]
      rfl
     refine one_ (i := 3) (N := some 32) #[true, true, true, true, true, true, true, false, false, false, false] rfl rfl (one_of HT_.out (by kernel_rfl)) (by decide) (fun K hK => ?_)
     refine Kd.R_append_rows_step Kd.string (w0 := w) w.heap.size (by rfl) (.tmp 29) (.tmp 31) 41 9 (.string ⟨#[]⟩) 16 rfl Try.underlying41 info9 rfl (by decide) (by omega) v29 [] p.f0 A0 p.f0.length c0 (fun k_ => some k_ ≠ (v33 : Value).ownBlock) (fun _ => False) rfl rfl ?aO ?aR (fun _ _ h => h) (fun _ h => h.elim) ?aF ?aB ?aS ?aL ?_
     (case aR => exact (Kd.C_below HR0.out HB.out)); (case aB => exact HB.out); (case aF => exact Kd.fresh_ok HO33.out); (case aO => exact HO29.out); (case aS => exact (zAE HB.out)); (case aL => have := HLN.out; simp only [List.length_nil]; omega)
     intro v32 w7 ho hb hg hat
     rw [List.nil_append] at ho
     have n0_ := zA (blk_grown BK3.out hg (Kd.R_ne HO29.out BK3.out (by decide)))
     have n1_ := zA (blk_grown BK8.out hg (Kd.R_ne HO29.out BK8.out (by decide)))
     have n2_ := zA (Kd.R_after (ok := fun _ => True) (Kd.R_mono HO33.out (fun _ hk => ⟨trivial, hk⟩)) hg hat)
     clear BK3 BK8 HB HO29 HO33
     have BK3 := n0_
     have BK8 := n1_
     have HO33 := n2_
     have HB := zA hb
     have HO32 := zA ho
     clear n0_ n1_ n2_ hb ho hg hat
     refine hK.out _ _ ⟨(zP BK8.out 0).trans rfl, (zP BK8.out 1).trans rfl⟩ (fun hHeld => ?_)
     clear hK K
     refine norm_ (a' := ?_) ?_ ?_; rotate_left
     ·show Act.put _ (some 32) _ = _
      simp only [Act.put, zC, zD, zE, i64_w, i32_w]; rfl
     exact norm_ (by simp only [putAll, Act.put, zC, zD, zE] <;> rfl) (hJ1 (v29, v32, v33) _ ⟨hHeld, HO32.out, Kd.R_mono HO33.out (fun _ hk => trivial), BK3.out, BK8.out, HB.out⟩)
   ·rintro ⟨v29, v32, v33⟩ w6 ⟨hS, h32, h33, h3, h8, hb⟩
    clear BK3 BK8 HB hHeld
    have BK3 := zA h3
    have BK8 := zA h8
    have HB := zA hb
    have HO32 := zA h32
    have HO33 := zA h33
    have hHeld := hS
    clear h3 h8 hb h32 h33 hS
    refine norm_ (a' := ?_) ?_ ?_; rotate_left
    ·simp only [putAll, Act.put, zC, zD, zE]
     rfl
    refine one_ (i := 7) (N := some 36) #[true, true, true, true, true, true, true, true, false, false, false] rfl rfl (one_of HT_.out (by kernel_rfl)) (by decide) (fun K hK => ?_)
    refine Kd.R_append_rows_step Kd.string (w0 := w) w.heap.size (by rfl) (.tmp 33) (.tmp 35) 41 9 (.string ⟨#[]⟩) 16 rfl Try.underlying41 info9 rfl (by decide) (by omega) v33 [] p.f1 A1 p.f1.length c1 (fun _ => True) (fun _ => False) rfl rfl ?aO ?aR (fun _ _ h => h) (fun _ h => h.elim) ?aF ?aB ?aS ?aL ?_
    (case aR => exact (Kd.C_below HR1.out HB.out)); (case aB => exact HB.out); (case aF => exact (fun _ _ => trivial)); (case aO => exact HO33.out); (case aS => exact (zAE HB.out)); (case aL => have := HLN.out; simp only [List.length_nil]; omega)
    intro v36 w7 ho hb hg hat
    rw [List.nil_append] at ho
    have n0_ := zA (blk_grown BK3.out hg (Kd.R_ne HO33.out BK3.out (by decide)))
    have n1_ := zA (blk_grown BK8.out hg (Kd.R_ne HO33.out BK8.out (by decide)))
    have n2_ := zA (Kd.R_after (ok := fun _ => True) (Kd.R_mono HO32.out (fun _ hk => ⟨trivial, hk⟩)) hg hat)
    clear BK3 BK8 HB HO32 HO33
    have BK3 := n0_
    have BK8 := n1_
    have HO32 := n2_
    have HB := zA hb
    have HO36 := zA ho
    clear n0_ n1_ n2_ hb ho hg hat
    obtain ⟨A32, c32, eo⟩ := Kd.R_slice HO32.out
    subst eo
    obtain ⟨A36, c36, eo⟩ := Kd.R_slice HO36.out
    subst eo
    refine hK.out _ _ ⟨(zP BK8.out 0).trans rfl, (zP BK8.out 1).trans rfl⟩ (fun hHeld => ?_)
    clear hK K
    refine norm_ (a' := ?_) ?_ ?_; rotate_left
    ·show Act.put _ (some 36) _ = _
     simp only [Act.put, zC, zD, zE, i64_w, i32_w]; rfl
    refine pure_ (i := 8) (N := some 37) (v := ?_) (a' := ?_) #[true, true, true, true, true, true, true, true, true, false, false] rfl rfl (any_of HT_.out (by kernel_rfl)) (fun _ _ _ h => h) (Or.inl ⟨by rfl, ?_⟩) ?_ ?_; rotate_left
    ·intro w'
     go_simp
     with_reducible rfl
    rotate_left
    ·simp only [Act.put, zC, zD, zE, i64_w, i32_w]
     rfl
    refine one_ (i := 9) (N := some 38) #[true, true, true, true, true, true, true, true, true, true, false] rfl rfl (one_of HT_.out (by kernel_rfl)) (by decide) (fun K hK => ?_)
    refine box_step ?hg (N := 38) ?hd (cs := #[.slice A32 p.f0.length c32, .slice A36 p.f1.length c36, .slice none 0 0]) (t := 95) ?hr ?_; (case hd => rfl); (case hg => rfl); (case hr => first | (go_simp; done) | (go_simp; rfl))
    intro gb9 hg w8 hbox hb
    have n0_ := zA (Kd.R_below (Kd.R_mono HO32.out (fun _ _ => trivial) : Kd.R Kd.string 9 w7 w.heap.size (fun _ => True) (.slice A32 p.f0.length c32) p.f0) hb)
    have n1_ := zA (Kd.R_below HO36.out hb)
    have n2_ := zA (blk_below BK3.out hb)
    have n3_ := zA (blk_below BK8.out hb)
    have n4_ := zA (zAD HB.out hb)
    have GW9 := zA (by rw [hg]; exact zAE HB.out : w.heap.size ≤ gb9)
    have NB39 := zA (by rw [hg]; exact zK (blk_lt BK3.out) : gb3 ≠ gb9)
    have NB89 := zA (by rw [hg]; exact zK (blk_lt BK8.out) : gb8 ≠ gb9)
    clear BK3 BK8 HB HO32 HO36 hb hg
    have HO32 := n0_
    have HO36 := n1_
    have BK3 := n2_
    have BK8 := n3_
    have HB := n4_
    have BK9 := zA hbox
    clear n0_ n1_ n2_ n3_ n4_ hbox
    refine hK.out _ _ ⟨(zP BK8.out 0).trans rfl, (zP BK8.out 1).trans rfl⟩ (fun hHeld => ?_)
    clear hK K
    refine norm_ (a' := ?_) ?_ ?_; rotate_left
    ·show Act.put _ (some 38) _ = _
     simp only [Act.put, zC, zD, zE, i64_w, i32_w]; rfl
    refine pure_ (i := 10) (N := some 9) (v := ?_) (a' := ?_) #[true, true, true, true, true, true, true, true, true, true, true] rfl rfl (any_of HT_.out (by kernel_rfl)) (fun _ _ _ h => h) (Or.inl ⟨by rfl, ?_⟩) ?_ ?_; rotate_left
    ·intro w'
     go_simp
     with_reducible rfl
    rotate_left
    ·simp only [Act.put, zC, zD, zE, i64_w, i32_w]
     rfl
    refine done_ (done_of HT_.out (by kernel_rfl)) ?_
    clear hHeld HT_ HW_
    have hz0 : w8.cell? ⟨gb8, 0, none⟩ = some (.slice A0 p.f0.length c0) := (zP BK8.out 0).trans rfl
    have hz1 : w8.cell? ⟨gb8, 1, none⟩ = some (.slice A1 p.f1.length c1) := (zP BK8.out 1).trans rfl
    have hz2 : w8.cell? ⟨gb8, 2, none⟩ = some (.slice A2 p.f2.length c2) := (zP BK8.out 2).trans rfl
    have hw1 : wrap64 ((p.f0.length : Int) + 1) = ((p.f0.length + 1 : Nat) : Int) := by have := HLN.out; unfold wrap64; omega
    have hw2 : wrap64 (z + 1) = ((at_ + 1 : Nat) : Int) := by have := HG.out.1; have := HZ.out; have := HH.out; unfold wrap64; omega
    by_cases k1 : p.f0.length ≤ 4
    ·have e1 : decide ((4 : Int) < (p.f0.length : Int)) = false := decide_eq_false (by omega)
     have e1' : decide (4 < p.f0.length) = false := decide_eq_false (by omega)
     have K1 := zA k1
     clear k1
     by_cases k2 : p.f1.length = p.f0.length
     ·have e2 : (((p.f1.length : Int)) != (p.f0.length : Int)) = false := bne_eq_false_iff_eq.mpr (by omega)
      have e2' : (p.f1.length != p.f0.length) = false := bne_eq_false_iff_eq.mpr k2
      have e2'' : (p.f1.length == p.f0.length) = true := beq_iff_eq.mpr k2
      have K2 := zA k2
      clear k2
      by_cases k3 : p.f2.length = 0
      ·have e3 : (((p.f2.length : Int)) != 0) = false := bne_eq_false_iff_eq.mpr (by omega)
       have e3' : (p.f2.length != 0) = false := bne_eq_false_iff_eq.mpr k3
       have K3 := zA k3
       clear k3
       have RR := zA (show readF ps (n + 1) at_ = (match readK (readF ps n) p.f2 (at_ + 1) with | none => none | some (l, e) => some (⟨p.f0, p.f1, l⟩, e)) from by rw [readF, HP.out]; exact if_pos ⟨K1.out, K2.out, .inl K3.out⟩)
       go_wp2
       have HW2 := zA hw2
       clear hw2
       (try clear hw1); (try clear e1); (try clear e1'); (try clear e2); (try clear e2'); (try clear e2''); (try clear e3); (try clear e3'); (try clear e3''); (try clear e3d); (try clear e4); (try clear e4'); (try clear e4''); (try clear e4x); (try clear b1); (try clear b2); (try clear b3); (try clear b4); (try clear b5); (try clear b6); (try clear b7)
       go_loopg [10, 73] (p.f2.length + 1) (fun kq v10 v73 w' => ∃ (i nx : Nat) (kids : List S95) (vC : Value), v73 = .int .i64 (i : Int) ∧ v10 = .int .i64 (nx : Int) ∧ Aside0 (kq + i = p.f2.length + 1) ∧ Aside0 (i ≤ p.f2.length) ∧ Aside0 (readK (readF ps n) p.f2 (at_ + 1) = (match readK (readF ps n) (p.f2.drop i) nx with | none => none | some (l, e) => some (kids.map er95 ++ l, e))) ∧ Aside0 (kids.length = i) ∧ Aside0 (Kd.R Kd.string 9 w' w.heap.size (fun _ => True) (.slice A32 p.f0.length c32) p.f0) ∧ Aside0 (Kd.R Kd.string 9 w' w.heap.size (fun _ => True) (.slice A36 p.f1.length c36) p.f1) ∧ Aside0 (Kd.R k95p 54 w' w.heap.size (fun k => k ≠ gb9) vC kids) ∧ Aside0 (w'.heap[gb9]? = some (.cells #[.slice A32 p.f0.length c32, .slice A36 p.f1.length c36, vC] 95 (0, 0))) ∧ Aside0 (w'.heap[gb3]? = some (.cells #[.slice (some ad) ps.length c] 30 (0, 0))) ∧ Aside0 (Below w.heap.size w w'))
       case atStart => exact ⟨0, at_ + 1, [], .slice none 0 0, rfl, by first | rfl | (rw [HW2.out]; done), ⟨by omega⟩, ⟨by omega⟩, ⟨by rw [List.drop_zero]; cases readK (readF ps n) p.f2 (at_ + 1) with | none => rfl | some z => rfl⟩, ⟨rfl⟩, HO32, HO36, ⟨Kd.R_nil _ _ _ _ _⟩, BK9, BK3, HB⟩
       case round =>
        clear HO32 HO36 BK9 BK3 BK8 HB
        obtain ⟨i, nx, kids, vC, rfl, rfl, HK, HI, HRD, HKL, HO32, HO36, HOC, BK9, BK3, HB⟩ := hrel
        by_cases hi : i < p.f2.length
        ·obtain ⟨g1, rfl⟩ : ∃ g1, gk = g1 + 1 := ⟨gk - 1, by have := HK.out; omega⟩
         have q1 : ((i : Int) < (p.f2.length : Int)) = True := eq_true (by omega)
         have q2 : (i < p.f2.length) = True := eq_true hi
         have q3 : decide ((i : Int) < (p.f2.length : Int)) = true := decide_eq_true (by omega)
         obtain ⟨adk, ek, hk0⟩ := Kd.at_int HR2.out (i : Int) (by omega) (by omega)
         subst ek
         rw [Int.toNat_natCast] at hk0
         have hk1 := (HB.out.cell (zB w _ hk0)).trans hk0
         obtain ⟨kk, hkk⟩ : ∃ z, z = rd p.f2 (i : Int) := ⟨_, rfl⟩
         rw [← hkk] at hk0 hk1
         have ED : p.f2.drop i = kk :: p.f2.drop (i + 1) := by
          rw [List.drop_eq_getElem_cons hi, hkk]
          congr 1
          unfold rd
          rw [Int.toNat_natCast, List.getD_eq_getElem?_getD, List.getElem?_eq_getElem hi]; rfl
         have HED := zA ED
         have HKK := zA hkk
         clear ED hkk hk0
         by_cases ck : kk = (nx : Int)
         ·have c1 : (kk != (nx : Int)) = false := bne_eq_false_iff_eq.mpr ck
          have c2 : (kk == (nx : Int)) = true := beq_iff_eq.mpr ck
          have CK := zA ck
          have hI := ih nx (dp + 1) wr (by omega) (by omega) (Kd.C_below HC.out HB.out)
          have hw3 : wrap64 (dp + 1) = dp + 1 := by unfold wrap64; omega
          have hc3 : wr.cell? ⟨gb3, 0, none⟩ = some (.slice (some ad) ps.length c) := (zP BK3.out 0).trans rfl
          have HRK := zA (show readK (readF ps n) (p.f2.drop i) nx = (match readF ps n nx with | none => none | some (t, e) => (match readK (readF ps n) (p.f2.drop (i + 1)) e with | none => none | some (l, e') => some (t :: l, e'))) from by rw [HED.out, readK, if_pos CK.out]; rfl)
          cases hR : readF ps n nx with
          | none =>
           rw [hR] at hI HRK
           have HRR := zA (show readF ps (n + 1) at_ = none from by rw [RR.out, HRD.out, HRK.out])
           clear ck hR
           go_wp2_with (first | ((with_reducible refine gate_callee (f := 54) rfl ?_); refine goesL_ (some 85) rfl rfl Try.func54 (by kernel_rfl) rfl #[.agg #[.slice (some ad) ps.length c], .int .i64 (nx : Int), .int .i64 (dp + 1)] rfl (by (try simp only [zAA, zAB, zAC]); first | done | rfl) ?_; refine hI.mono ?_; rintro e w9 ⟨rfl, hb⟩; refine ⟨_, rfl, ?_⟩; have n0_ := zA (zAD HB.out hb); clear HB hb hc3; have HB := n0_; clear n0_))
           go_ret2
           exact (show Post95 (n + 1) w (readF ps (n + 1) at_) _ _ from (by rw [HRR.out]; exact ⟨by first | rfl | (simp <;> rfl), HB.out⟩))
          | some te =>
           obtain ⟨t, e1⟩ := te
           rw [hR] at hI HRK
           clear ck hR
           have c3 : decide ((e1 : Int) < 0) = false := decide_eq_false (by omega)
           go_wp2_with (first | ((with_reducible refine gate_callee (f := 54) rfl ?_); refine goesL_ (some 85) rfl rfl Try.func54 (by kernel_rfl) rfl #[.agg #[.slice (some ad) ps.length c], .int .i64 (nx : Int), .int .i64 (dp + 1)] rfl (by (try simp only [zAA, zAB, zAC]); first | done | rfl) ?_; refine hI.mono ?_; rintro e w9 ⟨x, rfl, hx1, hM, hb⟩; refine ⟨_, rfl, ?_⟩; have n0_ := zA (zAD HB.out hb); have n1_ := zA (blk_below BK3.out hb); have n2_ := zA (blk_below BK9.out hb); have n3_ := zA (Kd.R_below HO32.out hb); have n4_ := zA (Kd.R_below HO36.out hb); have n5_ := zA (Kd.R_below HOC.out hb); have HVL := zA (Kd.R_lt HOC.out); have HGL := zA (blk_lt BK9.out); have HWS := zA hb.size; have HWR := zA (zAE HB.out); have HXE := zA hx1; have HM := zA hM; clear HB BK3 BK9 HO32 HO36 HOC hb hc3 hx1 hM; have HB := n0_; have BK3 := n1_; have BK9 := n2_; have HO32 := n3_; have HO36 := n4_; have HOC := n5_; clear n0_ n1_ n2_ n3_ n4_ n5_; have hc9 : w9.cell? ⟨gb9, 2, none⟩ = some vC := (zP BK9.out 2).trans rfl) | ((with_reducible refine gate_builtin (b := .append) (xs := #[.tmp 94, .tmp 96]) rfl ?_); at_builtin; refine Kd.R_append k95p (w0 := w) w.heap.size rfl (.tmp 94) (.tmp 96) 93 54 (.pointer none) 8 rfl Try.underlying93 info54 rfl (by decide) (by omega) vC kids x [.pointer (some ⟨x.adr, 0, none⟩)] (fun k => k ≠ gb9) (fun k => True ∧ wr.heap.size ≤ k ∧ k < w9.heap.size ∧ ∃ q, q ∈ k95p.E ∧ ∃ cells, w9.heap[k]? = some (.cells cells q (0, 0))) rfl rfl ?aP ?aK ?aF ?aO ?aB ?aS ?aL ?_; (case aP => exact k95p.M_lower HWR.out (k95p.M_bound HM.out)); (case aK => exact (fun k hk => ⟨by have := HGL.out; omega, fun e => by have := HVL.out k e.symm; omega⟩)); (case aF => exact (fun k hk => by have := HGL.out; have := HWS.out; omega)); (case aO => exact HOC.out); (case aB => exact HB.out); (case aS => exact (zAE HB.out)); (case aL => have := HLN.out; have := HKL.out; omega); intro v97 w10 ho hb hg hat; obtain ⟨ys, hys⟩ : ∃ ys, ys = kids ++ [x] := ⟨_, rfl⟩; rw [← hys] at ho; have HYS := zA hys; clear hys; have n0_ := zA ho; have n1_ := zA hb; have n2_ := zA (blk_grown BK9.out hg (Kd.R_ne HOC.out BK9.out (by decide))); have n3_ := zA (blk_grown BK3.out hg (Kd.R_ne HOC.out BK3.out (by decide))); have n4_ := zA (Kd.R_mono (Kd.R_grown (R_apart HO32.out HOC.out (by decide)) hg (fun _ hk => hk.2)) (fun _ _ => trivial) : Kd.R Kd.string 9 w10 w.heap.size (fun _ => True) (.slice A32 p.f0.length c32) p.f0); have n5_ := zA (Kd.R_mono (Kd.R_grown (R_apart HO36.out HOC.out (by decide)) hg (fun _ hk => hk.2)) (fun _ _ => trivial) : Kd.R Kd.string 9 w10 w.heap.size (fun _ => True) (.slice A36 p.f1.length c36) p.f1); clear HB BK3 BK9 HO32 HO36 HOC hc9 ho hb hg hat; have HOC := n0_; have HB := n1_; have BK9 := n2_; have BK3 := n3_; have HO32 := n4_; have HO36 := n5_; clear n0_ n1_ n2_ n3_ n4_ n5_; have hc10 : w10.cell? ⟨gb9, 2, none⟩ = some vC := (zP BK9.out 2).trans rfl; have hf10 := zO BK9.out 2; obtain ⟨A97, c97, eo⟩ := Kd.R_slice HOC.out; subst eo))
           go_roundg g1
           case measure => omega
           case rel => exact ⟨i + 1, e1, ys, _, by rw [w64N i (by have := HLN.out; omega)], rfl, ⟨by have := HK.out; omega⟩, ⟨by omega⟩, ⟨by
             rw [HRD.out, HRK.out]
             cases readK (readF ps n) (p.f2.drop (i + 1)) e1 with
             | none => rfl
             | some z =>
              show some (kids.map er95 ++ (t :: z.1), z.2) = some (ys.map er95 ++ z.1, z.2)
              rw [HYS.out, List.map_append, List.append_assoc, ← HXE.out]; rfl⟩, ⟨by rw [HYS.out, List.length_append, HKL.out]; rfl⟩,
            ⟨Kd.R_set HO32.out BK9.out (by decide) 2 _⟩, ⟨Kd.R_set HO36.out BK9.out (by decide) 2 _⟩, ⟨Kd.R_far (p := ⟨gb9, 2, none⟩) HOC.out (fun _ hk => hk) _⟩, ⟨blk_put BK9.out 2 _ rfl⟩, ⟨blk_far BK3.out NB39.out _⟩, ⟨zI HB.out GW9.out⟩⟩
         ·have c1 : (kk != (nx : Int)) = true := bne_iff_ne.mpr ck
          have c2 : (kk == (nx : Int)) = false := beq_eq_false_iff_ne.mpr ck
          have CK := zA ck
          have HRR := zA (show readF ps (n + 1) at_ = none from by rw [RR.out, HRD.out, HED.out, readK, if_neg CK.out])
          clear ck
          go_wp2
          go_ret2
          exact (show Post95 (n + 1) w (readF ps (n + 1) at_) _ _ from (by rw [HRR.out]; exact ⟨by first | rfl | (simp <;> rfl), HB.out⟩))
        ·have q3 : decide ((i : Int) < (p.f2.length : Int)) = false := decide_eq_false (by omega)
         have HRR := zA (show readF ps (n + 1) at_ = some (⟨p.f0, p.f1, kids.map er95⟩, nx) from by
          rw [RR.out, HRD.out, List.drop_eq_nil_of_le (by have := HI.out; omega), readK]
          show some (T.mk p.f0 p.f1 (kids.map er95 ++ []), nx) = _
          rw [List.append_nil])
         obtain ⟨A99, c99, eo⟩ := Kd.R_slice HOC.out
         subst eo
         go_wp2
         go_ret2
         exact (show Post95 (n + 1) w (readF ps (n + 1) at_) _ _ from (by
          rw [HRR.out]
          exact ⟨⟨gb9, p.f0, p.f1, kids⟩, by first | rfl | (simp <;> rfl), er95_eq _, k95p_mkM trivial GW9.out BK9.out (Kd.R_types HO32.out BK9.out (by decide)) (Kd.R_types HO36.out BK9.out (by decide)) (Kd.R_mono HOC.out (fun _ hk => ⟨trivial, hk⟩)), HB.out⟩))
      ·have e3 : (((p.f2.length : Int)) != 0) = true := bne_iff_ne.mpr (by omega)
       have e3' : (p.f2.length != 0) = true := bne_iff_ne.mpr k3
       have e3'' : ((p.f2.length : Int) == 0) = false := beq_eq_false_iff_ne.mpr (by omega)
       have e3d : (p.f2.length == 0) = false := beq_eq_false_iff_ne.mpr k3
       have K3 := zA k3
       clear k3
       by_cases k4 : p.f2.length = p.f0.length + 1
       ·have e4 : (((p.f2.length : Int)) != ((p.f0.length + 1 : Nat) : Int)) = false := bne_eq_false_iff_eq.mpr (by omega)
        have e4' : (p.f2.length != p.f0.length + 1) = false := bne_eq_false_iff_eq.mpr k4
        have e4'' : (p.f2.length == p.f0.length + 1) = true := beq_iff_eq.mpr k4
        have e4x : (((p.f2.length : Int)) != (p.f0.length : Int) + 1) = false := bne_eq_false_iff_eq.mpr (by omega)
        have K4 := zA k4
        clear k4
        have RR := zA (show readF ps (n + 1) at_ = (match readK (readF ps n) p.f2 (at_ + 1) with | none => none | some (l, e) => some (⟨p.f0, p.f1, l⟩, e)) from by rw [readF, HP.out]; exact if_pos ⟨K1.out, K2.out, .inr K4.out⟩)
        go_wp2
        have HW2 := zA hw2
        clear hw2
        (try clear hw1); (try clear e1); (try clear e1'); (try clear e2); (try clear e2'); (try clear e2''); (try clear e3); (try clear e3'); (try clear e3''); (try clear e3d); (try clear e4); (try clear e4'); (try clear e4''); (try clear e4x); (try clear b1); (try clear b2); (try clear b3); (try clear b4); (try clear b5); (try clear b6); (try clear b7)
        go_loopg [10, 73] (p.f2.length + 1) (fun kq v10 v73 w' => ∃ (i nx : Nat) (kids : List S95) (vC : Value), v73 = .int .i64 (i : Int) ∧ v10 = .int .i64 (nx : Int) ∧ Aside0 (kq + i = p.f2.length + 1) ∧ Aside0 (i ≤ p.f2.length) ∧ Aside0 (readK (readF ps n) p.f2 (at_ + 1) = (match readK (readF ps n) (p.f2.drop i) nx with | none => none | some (l, e) => some (kids.map er95 ++ l, e))) ∧ Aside0 (kids.length = i) ∧ Aside0 (Kd.R Kd.string 9 w' w.heap.size (fun _ => True) (.slice A32 p.f0.length c32) p.f0) ∧ Aside0 (Kd.R Kd.string 9 w' w.heap.size (fun _ => True) (.slice A36 p.f1.length c36) p.f1) ∧ Aside0 (Kd.R k95p 54 w' w.heap.size (fun k => k ≠ gb9) vC kids) ∧ Aside0 (w'.heap[gb9]? = some (.cells #[.slice A32 p.f0.length c32, .slice A36 p.f1.length c36, vC] 95 (0, 0))) ∧ Aside0 (w'.heap[gb3]? = some (.cells #[.slice (some ad) ps.length c] 30 (0, 0))) ∧ Aside0 (Below w.heap.size w w'))
        case atStart => exact ⟨0, at_ + 1, [], .slice none 0 0, rfl, by first | rfl | (rw [HW2.out]; done), ⟨by omega⟩, ⟨by omega⟩, ⟨by rw [List.drop_zero]; cases readK (readF ps n) p.f2 (at_ + 1) with | none => rfl | some z => rfl⟩, ⟨rfl⟩, HO32, HO36, ⟨Kd.R_nil _ _ _ _ _⟩, BK9, BK3, HB⟩
        case round =>
         clear HO32 HO36 BK9 BK3 BK8 HB
         obtain ⟨i, nx, kids, vC, rfl, rfl, HK, HI, HRD, HKL, HO32, HO36, HOC, BK9, BK3, HB⟩ := hrel
         by_cases hi : i < p.f2.length
         ·obtain ⟨g1, rfl⟩ : ∃ g1, gk = g1 + 1 := ⟨gk - 1, by have := HK.out; omega⟩
          have q1 : ((i : Int) < (p.f2.length : Int)) = True := eq_true (by omega)
          have q2 : (i < p.f2.length) = True := eq_true hi
          have q3 : decide ((i : Int) < (p.f2.length : Int)) = true := decide_eq_true (by omega)
          obtain ⟨adk, ek, hk0⟩ := Kd.at_int HR2.out (i : Int) (by omega) (by omega)
          subst ek
          rw [Int.toNat_natCast] at hk0
          have hk1 := (HB.out.cell (zB w _ hk0)).trans hk0
          obtain ⟨kk, hkk⟩ : ∃ z, z = rd p.f2 (i : Int) := ⟨_, rfl⟩
          rw [← hkk] at hk0 hk1
          have ED : p.f2.drop i = kk :: p.f2.drop (i + 1) := by
           rw [List.drop_eq_getElem_cons hi, hkk]
           congr 1
           unfold rd
           rw [Int.toNat_natCast, List.getD_eq_getElem?_getD, List.getElem?_eq_getElem hi]; rfl
          have HED := zA ED
          have HKK := zA hkk
          clear ED hkk hk0
          by_cases ck : kk = (nx : Int)
          ·have c1 : (kk != (nx : Int)) = false := bne_eq_false_iff_eq.mpr ck
           have c2 : (kk == (nx : Int)) = true := beq_iff_eq.mpr ck
           have CK := zA ck
           have hI := ih nx (dp + 1) wr (by omega) (by omega) (Kd.C_below HC.out HB.out)
           have hw3 : wrap64 (dp + 1) = dp + 1 := by unfold wrap64; omega
           have hc3 : wr.cell? ⟨gb3, 0, none⟩ = some (.slice (some ad) ps.length c) := (zP BK3.out 0).trans rfl
           have HRK := zA (show readK (readF ps n) (p.f2.drop i) nx = (match readF ps n nx with | none => none | some (t, e) => (match readK (readF ps n) (p.f2.drop (i + 1)) e with | none => none | some (l, e') => some (t :: l, e'))) from by rw [HED.out, readK, if_pos CK.out]; rfl)
           cases hR : readF ps n nx with
           | none =>
            rw [hR] at hI HRK
            have HRR := zA (show readF ps (n + 1) at_ = none from by rw [RR.out, HRD.out, HRK.out])
            clear ck hR
            go_wp2_with (first | ((with_reducible refine gate_callee (f := 54) rfl ?_); refine goesL_ (some 85) rfl rfl Try.func54 (by kernel_rfl) rfl #[.agg #[.slice (some ad) ps.length c], .int .i64 (nx : Int), .int .i64 (dp + 1)] rfl (by (try simp only [zAA, zAB, zAC]); first | done | rfl) ?_; refine hI.mono ?_; rintro e w9 ⟨rfl, hb⟩; refine ⟨_, rfl, ?_⟩; have n0_ := zA (zAD HB.out hb); clear HB hb hc3; have HB := n0_; clear n0_))
            go_ret2
            exact (show Post95 (n + 1) w (readF ps (n + 1) at_) _ _ from (by rw [HRR.out]; exact ⟨by first | rfl | (simp <;> rfl), HB.out⟩))
           | some te =>
            obtain ⟨t, e1⟩ := te
            rw [hR] at hI HRK
            clear ck hR
            have c3 : decide ((e1 : Int) < 0) = false := decide_eq_false (by omega)
            go_wp2_with (first | ((with_reducible refine gate_callee (f := 54) rfl ?_); refine goesL_ (some 85) rfl rfl Try.func54 (by kernel_rfl) rfl #[.agg #[.slice (some ad) ps.length c], .int .i64 (nx : Int), .int .i64 (dp + 1)] rfl (by (try simp only [zAA, zAB, zAC]); first | done | rfl) ?_; refine hI.mono ?_; rintro e w9 ⟨x, rfl, hx1, hM, hb⟩; refine ⟨_, rfl, ?_⟩; have n0_ := zA (zAD HB.out hb); have n1_ := zA (blk_below BK3.out hb); have n2_ := zA (blk_below BK9.out hb); have n3_ := zA (Kd.R_below HO32.out hb); have n4_ := zA (Kd.R_below HO36.out hb); have n5_ := zA (Kd.R_below HOC.out hb); have HVL := zA (Kd.R_lt HOC.out); have HGL := zA (blk_lt BK9.out); have HWS := zA hb.size; have HWR := zA (zAE HB.out); have HXE := zA hx1; have HM := zA hM; clear HB BK3 BK9 HO32 HO36 HOC hb hc3 hx1 hM; have HB := n0_; have BK3 := n1_; have BK9 := n2_; have HO32 := n3_; have HO36 := n4_; have HOC := n5_; clear n0_ n1_ n2_ n3_ n4_ n5_; have hc9 : w9.cell? ⟨gb9, 2, none⟩ = some vC := (zP BK9.out 2).trans rfl) | ((with_reducible refine gate_builtin (b := .append) (xs := #[.tmp 94, .tmp 96]) rfl ?_); at_builtin; refine Kd.R_append k95p (w0 := w) w.heap.size rfl (.tmp 94) (.tmp 96) 93 54 (.pointer none) 8 rfl Try.underlying93 info54 rfl (by decide) (by omega) vC kids x [.pointer (some ⟨x.adr, 0, none⟩)] (fun k => k ≠ gb9) (fun k => True ∧ wr.heap.size ≤ k ∧ k < w9.heap.size ∧ ∃ q, q ∈ k95p.E ∧ ∃ cells, w9.heap[k]? = some (.cells cells q (0, 0))) rfl rfl ?aP ?aK ?aF ?aO ?aB ?aS ?aL ?_; (case aP => exact k95p.M_lower HWR.out (k95p.M_bound HM.out)); (case aK => exact (fun k hk => ⟨by have := HGL.out; omega, fun e => by have := HVL.out k e.symm; omega⟩)); (case aF => exact (fun k hk => by have := HGL.out; have := HWS.out; omega)); (case aO => exact HOC.out); (case aB => exact HB.out); (case aS => exact (zAE HB.out)); (case aL => have := HLN.out; have := HKL.out; omega); intro v97 w10 ho hb hg hat; obtain ⟨ys, hys⟩ : ∃ ys, ys = kids ++ [x] := ⟨_, rfl⟩; rw [← hys] at ho; have HYS := zA hys; clear hys; have n0_ := zA ho; have n1_ := zA hb; have n2_ := zA (blk_grown BK9.out hg (Kd.R_ne HOC.out BK9.out (by decide))); have n3_ := zA (blk_grown BK3.out hg (Kd.R_ne HOC.out BK3.out (by decide))); have n4_ := zA (Kd.R_mono (Kd.R_grown (R_apart HO32.out HOC.out (by decide)) hg (fun _ hk => hk.2)) (fun _ _ => trivial) : Kd.R Kd.string 9 w10 w.heap.size (fun _ => True) (.slice A32 p.f0.length c32) p.f0); have n5_ := zA (Kd.R_mono (Kd.R_grown (R_apart HO36.out HOC.out (by decide)) hg (fun _ hk => hk.2)) (fun _ _ => trivial) : Kd.R Kd.string 9 w10 w.heap.size (fun _ => True) (.slice A36 p.f1.length c36) p.f1); clear HB BK3 BK9 HO32 HO36 HOC hc9 ho hb hg hat; have HOC := n0_; have HB := n1_; have BK9 := n2_; have BK3 := n3_; have HO32 := n4_; have HO36 := n5_; clear n0_ n1_ n2_ n3_ n4_ n5_; have hc10 : w10.cell? ⟨gb9, 2, none⟩ = some vC := (zP BK9.out 2).trans rfl; have hf10 := zO BK9.out 2; obtain ⟨A97, c97, eo⟩ := Kd.R_slice HOC.out; subst eo))
            go_roundg g1
            case measure => omega
            case rel => exact ⟨i + 1, e1, ys, _, by rw [w64N i (by have := HLN.out; omega)], rfl, ⟨by have := HK.out; omega⟩, ⟨by omega⟩, ⟨by
              rw [HRD.out, HRK.out]
              cases readK (readF ps n) (p.f2.drop (i + 1)) e1 with
              | none => rfl
              | some z =>
               show some (kids.map er95 ++ (t :: z.1), z.2) = some (ys.map er95 ++ z.1, z.2)
               rw [HYS.out, List.map_append, List.append_assoc, ← HXE.out]; rfl⟩, ⟨by rw [HYS.out, List.length_append, HKL.out]; rfl⟩,
             ⟨Kd.R_set HO32.out BK9.out (by decide) 2 _⟩, ⟨Kd.R_set HO36.out BK9.out (by decide) 2 _⟩, ⟨Kd.R_far (p := ⟨gb9, 2, none⟩) HOC.out (fun _ hk => hk) _⟩, ⟨blk_put BK9.out 2 _ rfl⟩, ⟨blk_far BK3.out NB39.out _⟩, ⟨zI HB.out GW9.out⟩⟩
          ·have c1 : (kk != (nx : Int)) = true := bne_iff_ne.mpr ck
           have c2 : (kk == (nx : Int)) = false := beq_eq_false_iff_ne.mpr ck
           have CK := zA ck
           have HRR := zA (show readF ps (n + 1) at_ = none from by rw [RR.out, HRD.out, HED.out, readK, if_neg CK.out])
           clear ck
           go_wp2
           go_ret2
           exact (show Post95 (n + 1) w (readF ps (n + 1) at_) _ _ from (by rw [HRR.out]; exact ⟨by first | rfl | (simp <;> rfl), HB.out⟩))
         ·have q3 : decide ((i : Int) < (p.f2.length : Int)) = false := decide_eq_false (by omega)
          have HRR := zA (show readF ps (n + 1) at_ = some (⟨p.f0, p.f1, kids.map er95⟩, nx) from by
           rw [RR.out, HRD.out, List.drop_eq_nil_of_le (by have := HI.out; omega), readK]
           show some (T.mk p.f0 p.f1 (kids.map er95 ++ []), nx) = _
           rw [List.append_nil])
          obtain ⟨A99, c99, eo⟩ := Kd.R_slice HOC.out
          subst eo
          go_wp2
          go_ret2
          exact (show Post95 (n + 1) w (readF ps (n + 1) at_) _ _ from (by
           rw [HRR.out]
           exact ⟨⟨gb9, p.f0, p.f1, kids⟩, by first | rfl | (simp <;> rfl), er95_eq _, k95p_mkM trivial GW9.out BK9.out (Kd.R_types HO32.out BK9.out (by decide)) (Kd.R_types HO36.out BK9.out (by decide)) (Kd.R_mono HOC.out (fun _ hk => ⟨trivial, hk⟩)), HB.out⟩))
       ·have e4 : (((p.f2.length : Int)) != ((p.f0.length + 1 : Nat) : Int)) = true := bne_iff_ne.mpr (by omega)
        have e4' : (p.f2.length != p.f0.length + 1) = true := bne_iff_ne.mpr k4
        have e4'' : (p.f2.length == p.f0.length + 1) = false := beq_eq_false_iff_ne.mpr k4
        have e4x : (((p.f2.length : Int)) != (p.f0.length : Int) + 1) = true := bne_iff_ne.mpr (by omega)
        have K4 := zA k4
        clear k4
        have RR := zA (show readF ps (n + 1) at_ = none from by rw [readF, HP.out]; exact if_neg (fun z => z.2.2.elim K3.out K4.out))
        go_wp2
        go_ret2
        exact (show Post95 (n + 1) w (readF ps (n + 1) at_) _ _ from (by rw [RR.out]; exact ⟨by first | rfl | (simp <;> rfl), HB.out⟩))
     ·have e2 : (((p.f1.length : Int)) != (p.f0.length : Int)) = true := bne_iff_ne.mpr (by omega)
      have e2' : (p.f1.length != p.f0.length) = true := bne_iff_ne.mpr k2
      have e2'' : (p.f1.length == p.f0.length) = false := beq_eq_false_iff_ne.mpr k2
      have K2 := zA k2
      clear k2
      have RR := zA (show readF ps (n + 1) at_ = none from by rw [readF, HP.out]; exact if_neg (fun z => K2.out z.2.1))
      go_wp2
      go_ret2
      exact (show Post95 (n + 1) w (readF ps (n + 1) at_) _ _ from (by rw [RR.out]; exact ⟨by first | rfl | (simp <;> rfl), HB.out⟩))
    ·have e1 : decide ((4 : Int) < (p.f0.length : Int)) = true := decide_eq_true (by omega)
     have e1' : decide (4 < p.f0.length) = true := decide_eq_true (by omega)
     have K1 := zA k1
     clear k1
     have RR := zA (show readF ps (n + 1) at_ = none from by rw [readF, HP.out]; exact if_neg (fun z => K1.out z.1))
     go_wp2
     go_ret2
     exact (show Post95 (n + 1) w (readF ps (n + 1) at_) _ _ from (by rw [RR.out]; exact ⟨by first | rfl | (simp <;> rfl), HB.out⟩))
  ·have b1 : decide ((ps.length : Int) ≤ (at_ : Int)) = true := decide_eq_true (by omega)
   have R := zA (show readF ps (n + 1) at_ = none by unfold readF; rw [List.getElem?_eq_none (by omega)])
   go_enter Try.func54, Try.ntmps54
   go_wp2_with (first | ((with_reducible refine gate_dst (N := 3) rfl ?_); refine box_event ?hg (N := 3) ?hd (cs := #[.slice A ps.length c]) (t := 30) ?hr ?_; (case hd => rfl); (case hg => rfl); (case hr => first | (go_simp; done) | (go_simp; rfl)); intro gb3 hg w3 hbox hb; have n0_ := zA (zAD HB.out hb); have BK3 := zA hbox; have GW3 := zA (by rw [hg]; exact Nat.le_refl _ : w.heap.size ≤ gb3); clear HB; have HB := n0_; clear n0_ hb hbox hg; have hx3 : w3.cell? ⟨gb3, 0, none⟩ = some (.slice A ps.length c) := (zP BK3.out 0).trans rfl))
   go_ret2
   exact (show Post95 (n + 1) w (readF ps (n + 1) at_) _ _ from (by rw [R.out]; exact ⟨by first | rfl | (simp <;> rfl), HB.out⟩))
end Go.Proofs.Ytnplghcbdaiogaa.QX
end
section
namespace Go.Proofs.Ytnplghcbdaiogaa.QC
open Go.RowKit Go.Proofs.YtnplghcbdaiogaaW.PrintWords Go.Proofs.YtnplghcbdaiogaaW.PrintLast Go.Proofs.YtnplghcbdaiogaaW.PrintMore Go.Proofs.Ytnplghcbdaiogaa.PB Go.Proofs.Ytnplghcbdaiogaa.PW Go.Proofs.Ytnplghcbdaiogaa.QW Go.Proofs.Ytnplghcbdaiogaa.PA Go.Proofs.Ytnplghcbdaiogaa.QP Go.Proofs.Ytnplghcbdaiogaa.QO Go.Proofs.Ytnplghcbdaiogaa.QQ Go.Proofs.Ytnplghcbdaiogaa.QZ Go.Proofs.Ytnplghcbdaiogaa.QX
attribute [local go_sem] max2_int min2_int max_two min_two max_three min_three max_four min_four
set_option linter.unusedVariables false
set_option linter.unusedSimpArgs false
set_option maxHeartbeats 4000000
set_option maxRecDepth 100000
def PostOf (w : World) (R : Option T) (e : Ending) (w' : World) : Prop := match R with
 | none => e = .returned (.tuple #[.pointer none, .bool false]) ∧ Below w.heap.size w w'
 | some t => ∃ x : S95, e = .returned (.tuple #[.pointer (some ⟨x.adr, 0, none⟩), .bool true]) ∧ er95 x = t ∧ k95p.M w' w.heap.size (fun _ => True) x [.pointer (some ⟨x.adr, 0, none⟩)] ∧ Below w.heap.size w w'
def okAt (K V : List ByteArray) (i : Nat) : Prop := (keyB (tx K i) && valB (tx V i)) = true ∧ risesAt K i
theorem ok_all (K V : List ByteArray) (hl : V.length = K.length) (h40 : K.length ≤ 40) (h : ∀ i, i < K.length → okAt K V i) : pairsB K V = true := by
 refine (pairs_iff K V).2 ⟨h40, fun i hi => ?_, (all_at V valB).2 (fun i hi => ?_)⟩
 ·have := (h i hi).1
  rw [Bool.and_eq_true] at this
  exact ⟨this.1, (h i hi).2⟩
 ·have := (h i (by omega)).1
  rw [Bool.and_eq_true] at this
  exact this.2
theorem ok_of (K V : List ByteArray) (hl : V.length = K.length) (h : pairsB K V = true) (i : Nat) (hi : i < K.length) : okAt K V i := by
 obtain ⟨h1, h2, h3⟩ := (pairs_iff K V).1 h
 refine ⟨?_, (h2 i hi).2⟩
 rw [Bool.and_eq_true]
 exact ⟨(h2 i hi).1, (all_at V valB).1 h3 i (by omega)⟩
theorem ofS (ps : List S97) (hG : Sml ps) (A : Option Addr) (c : Nat) (hc : ps.length ≤ c) (w : World) (hC : Kd.C k97 w A ps.length ps) :
  Calls Try.prog 23 #[.agg #[.slice A ps.length c]] w fun e w' => PostOf w (treeG ps 10) e w' := by
 have HG := zA hG
 have HC := zA hC
 have HLC := zA hc
 have HB := zA (Below.refl w.heap.size w)
 have hu30 := Try.underlying30
 have hu95 := Try.underlying95
 clear hG hC hc
 cases hR : readF ps 10 0 with
 | none =>
  have HR := zA hR
  have RR := zA (show treeG ps 10 = none by unfold treeG; rw [hR])
  have b1 : ((-1 : Int) != (ps.length : Int)) = true := bne_iff_ne.mpr (by omega)
  have b2 : ((-1 : Int) == (ps.length : Int)) = false := beq_eq_false_iff_ne.mpr (by omega)
  clear hR
  go_enter Try.func23, Try.ntmps23
  go_wp2_with (first | ((with_reducible refine gate_dst (N := 1) rfl ?_); refine box_event ?hg (N := 1) ?hd (cs := #[.slice A ps.length c]) (t := 30) ?hr ?_; (case hd => rfl); (case hg => rfl); (case hr => first | (go_simp; done) | (go_simp; rfl)); intro gb1 hg w3 hbox hb; have n0_ := zA (zAD HB.out hb); have BK1 := zA hbox; have GW1 := zA (by rw [hg]; exact Nat.le_refl _ : w.heap.size ≤ gb1); clear HB; have HB := n0_; clear n0_ hb hbox hg; have hx1 : w3.cell? ⟨gb1, 0, none⟩ = some (.slice A ps.length c) := (zP BK1.out 0).trans rfl; have hI := readS ps HG.out A c HLC.out 10 0 1 w3 (by rfl) (by omega) (Kd.C_below HC.out HB.out); rw [HR.out] at hI) | ((with_reducible refine gate_callee (f := 54) rfl ?_); refine goesL_ (some 12) rfl rfl Try.func54 (by kernel_rfl) rfl #[.agg #[.slice A ps.length c], .int .i64 ((0 : Nat) : Int), .int .i64 1] rfl (by (try simp only [zAA, zAB, zAC]); first | done | rfl) ?_; refine hI.mono ?_; clear hI;  rintro e w4 ⟨rfl, hb⟩; refine ⟨_, rfl, ?_⟩; have n0_ := zA (zAD HB.out hb); have n1_ := zA (blk_below BK1.out hb); clear HB BK1 hb hx1; have HB := n0_; have BK1 := n1_; clear n0_ n1_; have hx2 : w4.cell? ⟨gb1, 0, none⟩ = some (.slice A ps.length c) := (zP BK1.out 0).trans rfl))
  go_ret2
  exact (show PostOf w (treeG ps 10) _ _ from (by rw [RR.out]; exact ⟨by first | rfl | (simp <;> rfl), by repeat (first | exact HB.out | apply zF)⟩))
 | some tn =>
  obtain ⟨t, nx⟩ := tn
  have HR := zA hR
  by_cases hn : nx = ps.length
  ·have b1 : ((nx : Int) != (ps.length : Int)) = false := bne_eq_false_iff_eq.mpr (by omega)
   have b2 : ((nx : Int) == (ps.length : Int)) = true := beq_iff_eq.mpr (by omega)
   have b3 : (nx != ps.length) = false := bne_eq_false_iff_eq.mpr hn
   have b4 : (nx == ps.length) = true := beq_iff_eq.mpr hn
   have b5 : decide ((nx : Int) < 0) = false := decide_eq_false (by omega)
   have HN := zA hn
   obtain ⟨hok, hh⟩ := readF_ok ps _ _ _ _ hR
   have hcnt := readF_cnt ps _ _ _ _ hR
   have HOK := zA hok
   have HH := zA hh
   have hlen := hok
   have HKV := zA (kv_len t hok)
   obtain ⟨K, hK⟩ : ∃ q, q = keysT t := ⟨_, rfl⟩
   obtain ⟨V, hV⟩ : ∃ q, q = valsT t := ⟨_, rfl⟩
   have HNK := zA (show K.length < 8796093022208 from by have := HG.out.1; rw [hK]; omega)
   have HNV := zA (show V.length = K.length from by rw [hK, hV]; exact HKV.out.symm)
   have HEK := zA hK
   have HEV := zA hV
   clear hn hR hok hh hcnt hK hV hlen
   go_enter Try.func23, Try.ntmps23
   go_wp2_with (first | ((with_reducible refine gate_dst (N := 1) rfl ?_); refine box_event ?hg (N := 1) ?hd (cs := #[.slice A ps.length c]) (t := 30) ?hr ?_; (case hd => rfl); (case hg => rfl); (case hr => first | (go_simp; done) | (go_simp; rfl)); intro gb1 hg w3 hbox hb; have n0_ := zA (zAD HB.out hb); have BK1 := zA hbox; have GW1 := zA (by rw [hg]; exact Nat.le_refl _ : w.heap.size ≤ gb1); clear HB; have HB := n0_; clear n0_ hb hbox hg; have hx1 : w3.cell? ⟨gb1, 0, none⟩ = some (.slice A ps.length c) := (zP BK1.out 0).trans rfl; have hI := readS ps HG.out A c HLC.out 10 0 1 w3 (by rfl) (by omega) (Kd.C_below HC.out HB.out); rw [HR.out] at hI) | ((with_reducible refine gate_callee (f := 54) rfl ?_); refine goesL_ (some 12) rfl rfl Try.func54 (by kernel_rfl) rfl #[.agg #[.slice A ps.length c], .int .i64 ((0 : Nat) : Int), .int .i64 1] rfl (by (try simp only [zAA, zAB, zAC]); first | done | rfl) ?_; refine hI.mono ?_; clear hI;  rintro e w4 ⟨x, rfl, hx, hM, hb⟩; refine ⟨_, rfl, ?_⟩; have n0_ := zA (zAD HB.out hb); have n1_ := zA (blk_below BK1.out hb); have HXE := zA hx; have n2_ := zA (k95p.M_lower (zAE HB.out) hM); clear HB BK1 hb hx1 hx hM; have HB := n0_; have BK1 := n1_; have HM := n2_; clear n0_ n1_ n2_; have hx2 : w4.cell? ⟨gb1, 0, none⟩ = some (.slice A ps.length c) := (zP BK1.out 0).trans rfl; obtain ⟨k, hall⟩ := Ev.rounds (allS x (by rw [HXE.out]; exact HOK.out) [] [] (by rw [HXE.out, ← HEK.out]; have := HNK.out; simp only [List.length_nil]; omega) (by rw [HXE.out, ← HEV.out, HNV.out]; have := HNK.out; simp only [List.length_nil]; omega)); rw [HXE.out, ← HEK.out, ← HEV.out, List.nil_append, List.nil_append] at hall; have HALL := zA hall; clear hall) | ((with_reducible refine gate_callee (f := 55) rfl ?_); refine goesL_ (some 26) rfl rfl Try.func55 (by kernel_rfl) rfl #[.pointer (some ⟨x.adr, 0, none⟩), .slice none 0 0, .slice none 0 0] rfl (by (try simp only [zAA, zAB, zAC]); first | done | rfl) ?_; refine (spec_l5T_all.calls k x (fun _ => False) (.slice none 0 0) [] (fun _ => False) (.slice none 0 0) [] K V w4 w4 (Below.refl _ _) (k95p.K_of_M HM.out) (Kd.R_nil _ _ _ _ _) (fun _ h => h.elim) (Kd.R_nil _ _ _ _ _) (fun _ h => h.elim) HALL.out).mono ?_; rintro e w5 ⟨vK, vV, rfl, hRK, hRV, hb, hkp⟩; clear hkp; refine ⟨_, rfl, ?_⟩; obtain ⟨AK, cK, eo, hlK, hCK⟩ := Kd.R_reads hRK; subst eo; obtain ⟨AV, cV, eo, hlV, hCV⟩ := Kd.R_reads hRV; subst eo; have n0_ := zA (zAD HB.out hb); have n2_ := zA (k95p.M_below HM.out hb); have HCK := zA hCK; have HCV := zA hCV; clear HB BK1 hb hx2 HM hRK hRV hCK hCV hlK hlV; have HB := n0_; have HM := n2_; clear n0_ n2_))
   go_loopg [31] (K.length + 1) (fun kq v31 w' => ∃ (z : Int) (i : Nat), v31 = .int .i64 z ∧ Aside0 (z = (i : Int)) ∧ Aside0 (kq + i = K.length + 1) ∧ Aside0 (i ≤ K.length) ∧ Aside0 (∀ j, j < i → okAt K V j) ∧ ∃ m, w' = w5.drewN m)
   case atStart => exact ⟨0, 0, rfl, ⟨rfl⟩, ⟨by omega⟩, ⟨by omega⟩, ⟨fun j h => by omega⟩, 0, rfl⟩
   case round =>
    (try clear b1); (try clear b2); (try clear b3); (try clear b4); (try clear b5)
    obtain ⟨z, i, rfl, HZ, HK, HI, HJ, m, rfl⟩ := hrel
    by_cases hi : i < K.length
    ·obtain ⟨g1, rfl⟩ : ∃ g1, gk = g1 + 1 := ⟨gk - 1, by have := HK.out; omega⟩
     have hz := HZ.out
     have hvl := HNV.out
     have q1 : (z < (K.length : Int)) = True := eq_true (by omega)
     have q2 : (z < (V.length : Int)) = True := eq_true (by omega)
     have q3 : decide (z < (K.length : Int)) = true := decide_eq_true (by omega)
     have q4 : decide (z < (V.length : Int)) = true := decide_eq_true (by omega)
     have q5 : (0 ≤ z) = True := eq_true (by omega)
     have q6 : decide (0 ≤ z) = true := decide_eq_true (by omega)
     obtain ⟨adk, ek, hk0⟩ := Kd.at_string HCK.out z (by omega) (by omega)
     obtain ⟨adv, ev, hv0⟩ := Kd.at_string HCV.out z (by omega) (by omega)
     subst ek
     subst ev
     rw [show rdOf ByteArray.empty K z = tx K i from by rw [hz]] at hk0
     rw [show rdOf ByteArray.empty V z = tx V i from by rw [hz]] at hv0
     have hw1 : wrap64 (z + 1) = ((i + 1 : Nat) : Int) := by have := HNK.out; unfold wrap64; omega
     have HZ1 := zA hw1
     clear hw1
     obtain ⟨s, hs⟩ : ∃ q, q = tx K i := ⟨_, rfl⟩
     obtain ⟨v, hv⟩ : ∃ q, q = tx V i := ⟨_, rfl⟩
     rw [← hs] at hk0
     rw [← hv] at hv0
     obtain ⟨r, hr⟩ : ∃ q, q = (keyB s && valB v) := ⟨_, rfl⟩
     have HP := zA (show spec_l5Pair.f s v = some r from by rw [hr]; exact pairS s v)
     have HS := zA hs
     have HV := zA hv
     have HRB := zA hr
     clear hs hv hr
     cases r with
     | false =>
      have HNO := zA (show pairsB K V = false from Bool.eq_false_iff.2 (fun h => by
       have := (ok_of K V HNV.out h i hi).1
       rw [← HS.out, ← HV.out, ← HRB.out] at this; cases this))
      have RR := zA (show treeG ps 10 = none by
       unfold treeG; rw [HR.out]; refine if_neg (fun q => ?_)
       have := q.2
       unfold goodB at this
       rw [← HEK.out, ← HEV.out, HNO.out, Bool.false_and] at this; cases this)
      clear hz hvl hi
      go_wp2_with (first | ((with_reducible refine gate_callee (f := 31) rfl ?_); (try (refine gate_guard (by rfl) ?_; dsimp only)); refine goesL_ (some 41) rfl rfl Try.func31 (by kernel_rfl) rfl #[.string s, .string v] rfl (by (try simp only [zAA, zAB, zAC]); first | done | rfl) ?_; refine (spec_l5Pair.calls s v _ _ HP.out).mono ?_; rintro e w8 ⟨rfl, m8, hw⟩; rw [hw]; clear hw w8; refine ⟨_, rfl, ?_⟩))
      go_ret2
      exact (show PostOf w (treeG ps 10) _ _ from (by rw [RR.out]; exact ⟨by first | rfl | (simp <;> rfl), by repeat (first | exact HB.out | apply zF)⟩))
     | true =>
      by_cases hp : 0 < i
      ·have q7 : decide (0 < z) = true := decide_eq_true (by omega)
       have q8 : (0 < z) = True := eq_true (by omega)
       have hw3 : wrap64 (z - 1) = z - 1 := by have := HNK.out; unfold wrap64; omega
       obtain ⟨zp, hzp⟩ : ∃ q, q = wrap64 (z - 1) := ⟨_, rfl⟩
       have hzq : zp = z - 1 := hzp.trans hw3
       have hw4 := hzp.symm
       clear hw3 hzp
       have q9 : (zp < (K.length : Int)) = True := eq_true (by omega)
       have q10 : decide (zp < (K.length : Int)) = true := decide_eq_true (by omega)
       have q11 : (0 ≤ zp) = True := eq_true (by omega)
       have q12 : decide (0 ≤ zp) = true := decide_eq_true (by omega)
       obtain ⟨adp, ep, hp0⟩ := Kd.at_string HCK.out zp (by omega) (by omega)
       injection ep with ep
       subst ep
       rw [show rdOf ByteArray.empty K zp = tx K (i - 1) from by rw [show zp = ((i - 1 : Nat) : Int) by omega]] at hp0
       obtain ⟨pv, hpv⟩ : ∃ q, q = tx K (i - 1) := ⟨_, rfl⟩
       rw [← hpv] at hp0
       have HPV := zA hpv
       have HPI := zA hp
       have HIK := zA hi
       clear hpv hz hvl hi hp hzq
       cases hbl : Op.bytesLess pv.toList s.toList with
       | true =>
        have HBL := zA hbl
        go_wp2_with (first | ((with_reducible refine gate_callee (f := 31) rfl ?_); (try (refine gate_guard (by rfl) ?_; dsimp only)); refine goesL_ (some 41) rfl rfl Try.func31 (by kernel_rfl) rfl #[.string s, .string v] rfl (by (try simp only [zAA, zAB, zAC]); first | done | rfl) ?_; refine (spec_l5Pair.calls s v _ _ HP.out).mono ?_; rintro e w8 ⟨rfl, m8, hw⟩; rw [hw]; clear hw w8; refine ⟨_, rfl, ?_⟩))
        go_roundg g1
        case measure => omega
        case rel => exact ⟨wrap64 (z + 1), i + 1, rfl, HZ1, ⟨by have := HK.out; omega⟩, ⟨by have := HIK.out; omega⟩, ⟨fun j h => by
         by_cases e : j = i
         ·subst e
          exact ⟨by rw [← HS.out, ← HV.out]; exact HRB.out.symm, fun _ => by rw [← HPV.out, ← HS.out]; exact HBL.out⟩
         ·exact HJ.out j (by omega)⟩, _, by first | rfl | rw [World.drewN_drewN]⟩
       | false =>
        have HNO := zA (show pairsB K V = false from Bool.eq_false_iff.2 (fun h => by
         have := (ok_of K V HNV.out h i HIK.out).2 HPI.out
         rw [← HPV.out, ← HS.out, hbl] at this; cases this))
        have RR := zA (show treeG ps 10 = none by
         unfold treeG; rw [HR.out]; refine if_neg (fun q => ?_)
         have := q.2
         unfold goodB at this
         rw [← HEK.out, ← HEV.out, HNO.out, Bool.false_and] at this; cases this)
        go_wp2_with (first | ((with_reducible refine gate_callee (f := 31) rfl ?_); (try (refine gate_guard (by rfl) ?_; dsimp only)); refine goesL_ (some 41) rfl rfl Try.func31 (by kernel_rfl) rfl #[.string s, .string v] rfl (by (try simp only [zAA, zAB, zAC]); first | done | rfl) ?_; refine (spec_l5Pair.calls s v _ _ HP.out).mono ?_; rintro e w8 ⟨rfl, m8, hw⟩; rw [hw]; clear hw w8; refine ⟨_, rfl, ?_⟩))
        go_ret2
        exact (show PostOf w (treeG ps 10) _ _ from (by rw [RR.out]; exact ⟨by first | rfl | (simp <;> rfl), by repeat (first | exact HB.out | apply zF)⟩))
      ·have q7 : decide (0 < z) = false := decide_eq_false (by omega)
       have HPI := zA hp
       have HIK := zA hi
       clear hz hvl hi hp
       go_wp2_with (first | ((with_reducible refine gate_callee (f := 31) rfl ?_); (try (refine gate_guard (by rfl) ?_; dsimp only)); refine goesL_ (some 41) rfl rfl Try.func31 (by kernel_rfl) rfl #[.string s, .string v] rfl (by (try simp only [zAA, zAB, zAC]); first | done | rfl) ?_; refine (spec_l5Pair.calls s v _ _ HP.out).mono ?_; rintro e w8 ⟨rfl, m8, hw⟩; rw [hw]; clear hw w8; refine ⟨_, rfl, ?_⟩))
       go_roundg g1
       case measure => omega
       case rel => exact ⟨wrap64 (z + 1), i + 1, rfl, HZ1, ⟨by have := HK.out; omega⟩, ⟨by have := HIK.out; omega⟩, ⟨fun j h => by
        by_cases e : j = i
        ·subst e
         exact ⟨by rw [← HS.out, ← HV.out]; exact HRB.out.symm, fun h => absurd h HPI.out⟩
        ·exact HJ.out j (by omega)⟩, _, by first | rfl | rw [World.drewN_drewN]⟩
    ·have hz := HZ.out
     have q3 : decide (z < (K.length : Int)) = false := decide_eq_false (by omega)
     have hik : i = K.length := by have := HI.out; omega
     have HALLJ := zA (show ∀ j, j < K.length → okAt K V j from fun j h => HJ.out j (by omega))
     obtain ⟨e0, e1, e2⟩ := er95_f x
     rw [HXE.out] at e0 e1 e2
     obtain ⟨An0, cn0, An1, cn1, An2, cn2, hc0, hc1, hc2, _, _, _, _, _, _⟩ := at_P95 (k95p.K_of_M HM.out)
     obtain ⟨k2, hev⟩ := Ev.rounds (evenS x (by rw [HXE.out]; have := HH.out; omega) (by rw [HXE.out]; exact HOK.out))
     rw [HXE.out] at hev
     have hlf : spec_l5T_leaf.f x = some ((x.f2.length : Int) == 0) := rfl
     have HLF := zA hlf
     have HE0 := zA e0
     have HE2 := zA e2
     clear hz hi hik HZ hlf e0 e1 e2 hc1 hc2
     cases hl : levT t with
     | none =>
      rw [hl] at hev
      have HEV2 := zA hev
      have RR := zA (show treeG ps 10 = none by
       unfold treeG; rw [HR.out]; refine if_neg (fun q => ?_)
       have := q.2
       unfold goodB at this
       rw [hl, Bool.and_eq_true, Bool.and_eq_true] at this
       exact absurd this.2.1 (by simp))
      clear hev hl
      go_wp2_with (first | ((with_reducible refine gate_callee (f := 56) rfl ?_); (try (refine gate_guard (by rfl) ?_; dsimp only)); refine goesL_ (some 58) rfl rfl Try.func56 (by kernel_rfl) rfl #[.pointer (some ⟨x.adr, 0, none⟩)] rfl (by (try simp only [zAA, zAB, zAC]); first | done | rfl) ?_; refine (spec_l5T_even.calls k2 x (-1) _ (k95p_drewN (k95p.K_of_M HM.out) m) HEV2.out).mono ?_; rintro e w8 ⟨rfl, m8, hw⟩; rw [hw]; clear hw w8; refine ⟨_, rfl, ?_⟩))
      go_ret2
      exact (show PostOf w (treeG ps 10) _ _ from (by rw [RR.out]; exact ⟨by first | rfl | (simp <;> rfl), by repeat (first | exact HB.out | apply zF)⟩))
     | some d =>
      rw [hl] at hev
      have HEV2 := zA (show spec_l5T_even.f k2 x = some (d : Int) from hev)
      have HLV := zA hl
      have b1 : decide ((d : Int) < 0) = false := decide_eq_false (by omega)
      clear hev hl
      by_cases cz : x.f2.length = 0
      ·have HF := zA (show spec_l5T_leaf.f x = some true from by rw [HLF.out, cz]; rfl)
       have HCZ := zA cz
       clear cz
       by_cases h40 : K.length ≤ 40
       ·have p1 : decide ((40 : Int) < (K.length : Int)) = false := decide_eq_false (by omega)
        have p2 : decide (40 < K.length) = false := decide_eq_false (by omega)
        have H40 := zA h40
        clear h40
        have RR := zA (show treeG ps 10 = some t by
         unfold treeG; rw [HR.out]; refine if_pos ⟨HN.out, ?_⟩
         have hp := ok_all K V HNV.out H40.out HALLJ.out
         rw [HEK.out, HEV.out] at hp
         unfold goodB
         rw [hp, HLV.out, Bool.true_and]
         show (true && _) = true
         rw [Bool.true_and]
         rw [HE2.out, List.eq_nil_of_length_eq_zero HCZ.out]; rfl)
        go_wp2_with (first | ((with_reducible refine gate_callee (f := 56) rfl ?_); (try (refine gate_guard (by rfl) ?_; dsimp only)); refine goesL_ (some 58) rfl rfl Try.func56 (by kernel_rfl) rfl #[.pointer (some ⟨x.adr, 0, none⟩)] rfl (by (try simp only [zAA, zAB, zAC]); first | done | rfl) ?_; refine (spec_l5T_even.calls k2 x (d : Int) _ (by repeat (first | exact k95p.K_of_M HM.out | apply k95p_drewN)) HEV2.out).mono ?_; rintro e w8 ⟨rfl, m8, hw⟩; rw [hw]; clear hw w8; refine ⟨_, rfl, ?_⟩) | ((with_reducible refine gate_callee (f := 57) rfl ?_); (try (refine gate_guard (by rfl) ?_; dsimp only)); refine goesL_ (some 62) rfl rfl Try.func57 (by kernel_rfl) rfl #[.pointer (some ⟨x.adr, 0, none⟩)] rfl (by (try simp only [zAA, zAB, zAC]); first | done | rfl) ?_; refine (spec_l5T_leaf.calls x true _ (by repeat (first | exact k95p.K_of_M HM.out | apply k95p_drewN)) HF.out).mono ?_; rintro e w8 ⟨rfl, m9, hw⟩; rw [hw]; clear hw w8; refine ⟨_, rfl, ?_⟩))
        go_ret2
        exact (show PostOf w (treeG ps 10) _ _ from (by rw [RR.out]; exact ⟨x, by first | rfl | (simp <;> rfl), HXE.out, k95p.M_below HM.out (by repeat (first | exact Below.refl _ _ | apply pw_below_drewN)), by repeat (first | exact HB.out | apply zF)⟩))
       ·have p1 : decide ((40 : Int) < (K.length : Int)) = true := decide_eq_true (by omega)
        have p2 : decide (40 < K.length) = true := decide_eq_true (by omega)
        have H40 := zA h40
        clear h40
        have RR := zA (show treeG ps 10 = none by
         unfold treeG; rw [HR.out]; refine if_neg (fun q => ?_)
         have := q.2
         unfold goodB at this
         rw [← HEK.out, ← HEV.out, Bool.and_eq_true] at this
         exact H40.out ((pairs_iff K V).1 this.1).1)
        go_wp2_with (first | ((with_reducible refine gate_callee (f := 56) rfl ?_); (try (refine gate_guard (by rfl) ?_; dsimp only)); refine goesL_ (some 58) rfl rfl Try.func56 (by kernel_rfl) rfl #[.pointer (some ⟨x.adr, 0, none⟩)] rfl (by (try simp only [zAA, zAB, zAC]); first | done | rfl) ?_; refine (spec_l5T_even.calls k2 x (d : Int) _ (by repeat (first | exact k95p.K_of_M HM.out | apply k95p_drewN)) HEV2.out).mono ?_; rintro e w8 ⟨rfl, m8, hw⟩; rw [hw]; clear hw w8; refine ⟨_, rfl, ?_⟩) | ((with_reducible refine gate_callee (f := 57) rfl ?_); (try (refine gate_guard (by rfl) ?_; dsimp only)); refine goesL_ (some 62) rfl rfl Try.func57 (by kernel_rfl) rfl #[.pointer (some ⟨x.adr, 0, none⟩)] rfl (by (try simp only [zAA, zAB, zAC]); first | done | rfl) ?_; refine (spec_l5T_leaf.calls x true _ (by repeat (first | exact k95p.K_of_M HM.out | apply k95p_drewN)) HF.out).mono ?_; rintro e w8 ⟨rfl, m9, hw⟩; rw [hw]; clear hw w8; refine ⟨_, rfl, ?_⟩))
        go_ret2
        exact (show PostOf w (treeG ps 10) _ _ from (by rw [RR.out]; exact ⟨by first | rfl | (simp <;> rfl), by repeat (first | exact HB.out | apply zF)⟩))
      ·have HF := zA (show spec_l5T_leaf.f x = some false from by rw [HLF.out, beq_eq_false_iff_ne.2 (by omega)])
       have HCZ := zA cz
       clear cz
       by_cases ck : x.f0.length = 0
       ·have p3 : ((x.f0.length : Int) == 0) = true := beq_iff_eq.mpr (by omega)
        have p4 : decide (x.f0.length = 0) = true := decide_eq_true ck
        have p5 : (x.f0.length == 0) = true := beq_iff_eq.mpr ck
        have HCK0 := zA ck
        clear ck
        have RR := zA (show treeG ps 10 = none by
         unfold treeG; rw [HR.out]; refine if_neg (fun q => ?_)
         have := q.2
         unfold goodB at this
         rw [Bool.and_eq_true, Bool.and_eq_true, HE0.out, HE2.out, HCK0.out] at this
         have h2 := this.2.2
         rw [show decide (0 < 0) = false from rfl, Bool.or_false, List.isEmpty_iff, List.map_eq_nil_iff] at h2
         exact HCZ.out (by rw [h2]; rfl))
        go_wp2_with (first | ((with_reducible refine gate_callee (f := 56) rfl ?_); (try (refine gate_guard (by rfl) ?_; dsimp only)); refine goesL_ (some 58) rfl rfl Try.func56 (by kernel_rfl) rfl #[.pointer (some ⟨x.adr, 0, none⟩)] rfl (by (try simp only [zAA, zAB, zAC]); first | done | rfl) ?_; refine (spec_l5T_even.calls k2 x (d : Int) _ (by repeat (first | exact k95p.K_of_M HM.out | apply k95p_drewN)) HEV2.out).mono ?_; rintro e w8 ⟨rfl, m8, hw⟩; rw [hw]; clear hw w8; refine ⟨_, rfl, ?_⟩) | ((with_reducible refine gate_callee (f := 57) rfl ?_); (try (refine gate_guard (by rfl) ?_; dsimp only)); refine goesL_ (some 62) rfl rfl Try.func57 (by kernel_rfl) rfl #[.pointer (some ⟨x.adr, 0, none⟩)] rfl (by (try simp only [zAA, zAB, zAC]); first | done | rfl) ?_; refine (spec_l5T_leaf.calls x false _ (by repeat (first | exact k95p.K_of_M HM.out | apply k95p_drewN)) HF.out).mono ?_; rintro e w8 ⟨rfl, m9, hw⟩; rw [hw]; clear hw w8; refine ⟨_, rfl, ?_⟩))
        go_ret2
        exact (show PostOf w (treeG ps 10) _ _ from (by rw [RR.out]; exact ⟨by first | rfl | (simp <;> rfl), by repeat (first | exact HB.out | apply zF)⟩))
       ·have p3 : ((x.f0.length : Int) == 0) = false := beq_eq_false_iff_ne.2 (by omega)
        have p4 : decide (x.f0.length = 0) = false := decide_eq_false ck
        have p5 : (x.f0.length == 0) = false := beq_eq_false_iff_ne.2 ck
        have HCK0 := zA ck
        clear ck
        by_cases h40 : K.length ≤ 40
        ·have p1 : decide ((40 : Int) < (K.length : Int)) = false := decide_eq_false (by omega)
         have p2 : decide (40 < K.length) = false := decide_eq_false (by omega)
         have H40 := zA h40
         clear h40
         have RR := zA (show treeG ps 10 = some t by
          unfold treeG; rw [HR.out]; refine if_pos ⟨HN.out, ?_⟩
          have hp := ok_all K V HNV.out H40.out HALLJ.out
          rw [HEK.out, HEV.out] at hp
          unfold goodB
          rw [hp, HLV.out, Bool.true_and]
          show (true && _) = true
          rw [Bool.true_and]
          rw [HE0.out, decide_eq_true (by have := HCK0.out; omega : 0 < x.f0.length), Bool.or_true])
         go_wp2_with (first | ((with_reducible refine gate_callee (f := 56) rfl ?_); (try (refine gate_guard (by rfl) ?_; dsimp only)); refine goesL_ (some 58) rfl rfl Try.func56 (by kernel_rfl) rfl #[.pointer (some ⟨x.adr, 0, none⟩)] rfl (by (try simp only [zAA, zAB, zAC]); first | done | rfl) ?_; refine (spec_l5T_even.calls k2 x (d : Int) _ (by repeat (first | exact k95p.K_of_M HM.out | apply k95p_drewN)) HEV2.out).mono ?_; rintro e w8 ⟨rfl, m8, hw⟩; rw [hw]; clear hw w8; refine ⟨_, rfl, ?_⟩) | ((with_reducible refine gate_callee (f := 57) rfl ?_); (try (refine gate_guard (by rfl) ?_; dsimp only)); refine goesL_ (some 62) rfl rfl Try.func57 (by kernel_rfl) rfl #[.pointer (some ⟨x.adr, 0, none⟩)] rfl (by (try simp only [zAA, zAB, zAC]); first | done | rfl) ?_; refine (spec_l5T_leaf.calls x false _ (by repeat (first | exact k95p.K_of_M HM.out | apply k95p_drewN)) HF.out).mono ?_; rintro e w8 ⟨rfl, m9, hw⟩; rw [hw]; clear hw w8; refine ⟨_, rfl, ?_⟩))
         go_ret2
         exact (show PostOf w (treeG ps 10) _ _ from (by rw [RR.out]; exact ⟨x, by first | rfl | (simp <;> rfl), HXE.out, k95p.M_below HM.out (by repeat (first | exact Below.refl _ _ | apply pw_below_drewN)), by repeat (first | exact HB.out | apply zF)⟩))
        ·have p1 : decide ((40 : Int) < (K.length : Int)) = true := decide_eq_true (by omega)
         have p2 : decide (40 < K.length) = true := decide_eq_true (by omega)
         have H40 := zA h40
         clear h40
         have RR := zA (show treeG ps 10 = none by
          unfold treeG; rw [HR.out]; refine if_neg (fun q => ?_)
          have := q.2
          unfold goodB at this
          rw [← HEK.out, ← HEV.out, Bool.and_eq_true] at this
          exact H40.out ((pairs_iff K V).1 this.1).1)
         go_wp2_with (first | ((with_reducible refine gate_callee (f := 56) rfl ?_); (try (refine gate_guard (by rfl) ?_; dsimp only)); refine goesL_ (some 58) rfl rfl Try.func56 (by kernel_rfl) rfl #[.pointer (some ⟨x.adr, 0, none⟩)] rfl (by (try simp only [zAA, zAB, zAC]); first | done | rfl) ?_; refine (spec_l5T_even.calls k2 x (d : Int) _ (by repeat (first | exact k95p.K_of_M HM.out | apply k95p_drewN)) HEV2.out).mono ?_; rintro e w8 ⟨rfl, m8, hw⟩; rw [hw]; clear hw w8; refine ⟨_, rfl, ?_⟩) | ((with_reducible refine gate_callee (f := 57) rfl ?_); (try (refine gate_guard (by rfl) ?_; dsimp only)); refine goesL_ (some 62) rfl rfl Try.func57 (by kernel_rfl) rfl #[.pointer (some ⟨x.adr, 0, none⟩)] rfl (by (try simp only [zAA, zAB, zAC]); first | done | rfl) ?_; refine (spec_l5T_leaf.calls x false _ (by repeat (first | exact k95p.K_of_M HM.out | apply k95p_drewN)) HF.out).mono ?_; rintro e w8 ⟨rfl, m9, hw⟩; rw [hw]; clear hw w8; refine ⟨_, rfl, ?_⟩))
         go_ret2
         exact (show PostOf w (treeG ps 10) _ _ from (by rw [RR.out]; exact ⟨by first | rfl | (simp <;> rfl), by repeat (first | exact HB.out | apply zF)⟩))
  ·have b1 : ((nx : Int) != (ps.length : Int)) = true := bne_iff_ne.mpr (by omega)
   have b2 : ((nx : Int) == (ps.length : Int)) = false := beq_eq_false_iff_ne.mpr (by omega)
   have b3 : (nx != ps.length) = true := bne_iff_ne.mpr hn
   have b4 : (nx == ps.length) = false := beq_eq_false_iff_ne.mpr hn
   have RR := zA (show treeG ps 10 = none by unfold treeG; rw [hR]; exact if_neg (fun q => hn q.1))
   clear hR hn
   go_enter Try.func23, Try.ntmps23
   go_wp2_with (first | ((with_reducible refine gate_dst (N := 1) rfl ?_); refine box_event ?hg (N := 1) ?hd (cs := #[.slice A ps.length c]) (t := 30) ?hr ?_; (case hd => rfl); (case hg => rfl); (case hr => first | (go_simp; done) | (go_simp; rfl)); intro gb1 hg w3 hbox hb; have n0_ := zA (zAD HB.out hb); have BK1 := zA hbox; have GW1 := zA (by rw [hg]; exact Nat.le_refl _ : w.heap.size ≤ gb1); clear HB; have HB := n0_; clear n0_ hb hbox hg; have hx1 : w3.cell? ⟨gb1, 0, none⟩ = some (.slice A ps.length c) := (zP BK1.out 0).trans rfl; have hI := readS ps HG.out A c HLC.out 10 0 1 w3 (by rfl) (by omega) (Kd.C_below HC.out HB.out); rw [HR.out] at hI) | ((with_reducible refine gate_callee (f := 54) rfl ?_); refine goesL_ (some 12) rfl rfl Try.func54 (by kernel_rfl) rfl #[.agg #[.slice A ps.length c], .int .i64 ((0 : Nat) : Int), .int .i64 1] rfl (by (try simp only [zAA, zAB, zAC]); first | done | rfl) ?_; refine hI.mono ?_; clear hI;  rintro e w4 ⟨x, rfl, _, _, hb⟩; refine ⟨_, rfl, ?_⟩; have n0_ := zA (zAD HB.out hb); have n1_ := zA (blk_below BK1.out hb); clear HB BK1 hb hx1; have HB := n0_; have BK1 := n1_; clear n0_ n1_; have hx2 : w4.cell? ⟨gb1, 0, none⟩ = some (.slice A ps.length c) := (zP BK1.out 0).trans rfl))
   go_ret2
   exact (show PostOf w (treeG ps 10) _ _ from (by rw [RR.out]; exact ⟨by first | rfl | (simp <;> rfl), by repeat (first | exact HB.out | apply zF)⟩))
theorem treeG_some {ps : List S97} {t : T} (h : treeG ps 10 = some t) : okT t ∧ smT t := by
 unfold treeG at h
 cases hR : readF ps 10 0 with
 | none => rw [hR] at h; cases h
 | some tn =>
  obtain ⟨t', nx⟩ := tn
  rw [hR] at h
  dsimp only at h
  by_cases c : nx = ps.length ∧ goodB t' = true
  ·rw [if_pos c] at h
   obtain rfl := Option.some.inj h
   have hg := c.2
   unfold goodB at hg
   rw [Bool.and_eq_true] at hg
   exact ⟨(readF_ok ps _ _ _ _ hR).1, pairs_sm _ hg.1⟩
  ·rw [if_neg c] at h; cases h
theorem rootS (ps : List S97) (hG : Sml ps) (A : Option Addr) (c : Nat) (hc : ps.length ≤ c) (w : World) (hC : Kd.C k97 w A ps.length ps) :
  Calls Try.prog 7 #[.agg #[.slice A ps.length c]] w fun e w' => e = .returned (.tuple #[.string (rootF ps).1, .bool (rootF ps).2]) ∧ Below w.heap.size w w' := by
 have HG := zA hG
 have HC := zA hC
 have HLC := zA hc
 have HB := zA (Below.refl w.heap.size w)
 have hu30 := Try.underlying30
 clear hG hC hc
 cases hR : treeG ps 10 with
 | none =>
  have HR := zA hR
  have RR := zA (show rootF ps = (⟨#[]⟩, false) by unfold rootF; rw [hR])
  clear hR
  go_enter Try.func7, Try.ntmps7
  go_wp2_with (first | ((with_reducible refine gate_dst (N := 1) rfl ?_); refine box_event ?hg (N := 1) ?hd (cs := #[.slice A ps.length c]) (t := 30) ?hr ?_; (case hd => rfl); (case hg => rfl); (case hr => first | (go_simp; done) | (go_simp; rfl)); intro gb1 hg w3 hbox hb; have n0_ := zA (zAD HB.out hb); have BK1 := zA hbox; clear HB; have HB := n0_; clear n0_ hb hbox hg; have hx1 : w3.cell? ⟨gb1, 0, none⟩ = some (.slice A ps.length c) := (zP BK1.out 0).trans rfl; have hI := ofS ps HG.out A c HLC.out w3 (Kd.C_below HC.out HB.out); rw [HR.out] at hI) | ((with_reducible refine gate_callee (f := 23) rfl ?_); refine goesL_ (some 8) rfl rfl Try.func23 (by kernel_rfl) rfl #[.agg #[.slice A ps.length c]] rfl (by (try simp only [zAA, zAB, zAC]); first | done | rfl) ?_; refine hI.mono ?_; clear hI;  rintro e w4 ⟨rfl, hb⟩; refine ⟨_, rfl, ?_⟩; have n0_ := zA (zAD HB.out hb); clear HB BK1 hb hx1; have HB := n0_; clear n0_))
  go_ret2
  exact ⟨by rw [RR.out]; first | rfl | (simp <;> rfl), HB.out⟩
 | some t =>
  have HR := zA hR
  have RR := zA (show rootF ps = (digT t, true) by unfold rootF; rw [hR])
  obtain ⟨hok, hsm⟩ := treeG_some hR
  have HOK := zA hok
  have HSM := zA hsm
  clear hR hok hsm
  go_enter Try.func7, Try.ntmps7
  go_wp2_with (first | ((with_reducible refine gate_dst (N := 1) rfl ?_); refine box_event ?hg (N := 1) ?hd (cs := #[.slice A ps.length c]) (t := 30) ?hr ?_; (case hd => rfl); (case hg => rfl); (case hr => first | (go_simp; done) | (go_simp; rfl)); intro gb1 hg w3 hbox hb; have n0_ := zA (zAD HB.out hb); have BK1 := zA hbox; clear HB; have HB := n0_; clear n0_ hb hbox hg; have hx1 : w3.cell? ⟨gb1, 0, none⟩ = some (.slice A ps.length c) := (zP BK1.out 0).trans rfl; have hI := ofS ps HG.out A c HLC.out w3 (Kd.C_below HC.out HB.out); rw [HR.out] at hI) | ((with_reducible refine gate_callee (f := 23) rfl ?_); refine goesL_ (some 8) rfl rfl Try.func23 (by kernel_rfl) rfl #[.agg #[.slice A ps.length c]] rfl (by (try simp only [zAA, zAB, zAC]); first | done | rfl) ?_; refine hI.mono ?_; clear hI;  rintro e w4 ⟨x, rfl, hx, hM, hb⟩; refine ⟨_, rfl, ?_⟩; have n0_ := zA (zAD HB.out hb); have HXE := zA hx; have HM := zA hM; clear HB BK1 hb hx1 hx hM; have HB := n0_; clear n0_; obtain ⟨hs1, hs2⟩ := shownS x (by rw [HXE.out]; exact HOK.out) (by rw [HXE.out]; exact HSM.out); rw [HXE.out] at hs2; obtain ⟨C, hCe⟩ : ∃ q, q = x.f2.map (fun y => digT (er95 y)) := ⟨_, rfl⟩; rw [← hCe] at hs1 hs2; clear hCe; obtain ⟨k3, hk3⟩ := Ev.rounds hs1; obtain ⟨k4, hk4⟩ := Ev.rounds hs2; have HK3 := zA hk3; have HK4 := zA hk4; clear hs1 hs2 hk3 hk4) | ((with_reducible refine gate_callee (f := 25) rfl ?_); refine goesL_ (some 14) rfl rfl Try.func25 (by kernel_rfl) rfl #[.pointer (some ⟨x.adr, 0, none⟩)] rfl (by (try simp only [zAA, zAB, zAC]); first | done | rfl) ?_; refine (spec_l6Shown.calls k3 x x.f0 x.f1 C 0 _ (k95p.K_of_M HM.out) HK3.out).mono ?_; rintro e w5 ⟨v0, v1, v2, rfl, hR0, hR1, hR2, hb⟩; refine ⟨_, rfl, ?_⟩; obtain ⟨A0, c0, eo, hl0, hC0⟩ := Kd.R_reads hR0; subst eo; obtain ⟨A1, c1, eo, hl1, hC1⟩ := Kd.R_reads hR1; subst eo; obtain ⟨A2, c2, eo, hl2, hC2⟩ := Kd.R_reads hR2; subst eo; have n0_ := zA (zAD HB.out hb); have HC0 := zA hC0; have HC1 := zA hC1; have HC2 := zA hC2; have HL0 := zA hl0; have HL1 := zA hl1; have HL2 := zA hl2; clear HB hb hR0 hR1 hR2 hC0 hC1 hC2 hl0 hl1 hl2; have HB := n0_; clear n0_) | ((with_reducible refine gate_callee (f := 24) rfl ?_); refine goesL_ (some 15) rfl rfl Try.func24 (by kernel_rfl) rfl #[.agg #[.slice A0 x.f0.length c0, .slice A1 x.f1.length c1, .slice A2 C.length c2, .int .i64 0]] rfl (by (try simp only [zAA, zAB, zAC]); first | done | rfl) ?_; refine (spec_l6Digest.calls k4 A0 c0 x.f0 A1 c1 x.f1 A2 c2 C 0 (digT t) _ HC0.out HL0.out HC1.out HL1.out HC2.out HL2.out HK4.out).mono ?_; rintro e w6 ⟨rfl, hb⟩; refine ⟨_, rfl, ?_⟩; have n0_ := zA (zAD HB.out hb); clear HB hb; have HB := n0_; clear n0_))
  go_ret2
  exact ⟨by rw [RR.out]; first | rfl | (simp <;> rfl), HB.out⟩
end Go.Proofs.Ytnplghcbdaiogaa.QC
end
section
namespace Go.Proofs.Ytnplghcbdaiogaa.PA
open Go.RowKit Go.Proofs.YtnplghcbdaiogaaW.PrintWords Go.Proofs.YtnplghcbdaiogaaW.PrintLast Go.Proofs.YtnplghcbdaiogaaW.PrintMore
attribute [local go_sem] max2_int min2_int max_two min_two max_three min_three max_four min_four
set_option linter.unusedVariables false
set_option linter.unusedSimpArgs false
set_option maxHeartbeats 60000000
set_option maxRecDepth 100000
def spec_RootOf.f (l0_0 : List (S97)) : Option (ByteArray × Bool) := if Go.Proofs.Ytnplghcbdaiogaa.QZ.smlB l0_0 = true then some (Go.Proofs.Ytnplghcbdaiogaa.QZ.rootF l0_0) else none
theorem spec_RootOf.calls (A0_0 : Option Addr) (c0_0 : Nat) (l0_0 : List (S97)) (r1 : ByteArray) (r2 : Bool) (w : World) (hr0_0 : Kd.C k97 w A0_0 l0_0.length l0_0) (hc0_0 : l0_0.length ≤ c0_0) (h : spec_RootOf.f l0_0 = some (r1, r2)) :
  Calls Try.prog 7 #[.agg #[.slice A0_0 l0_0.length c0_0]] w fun e w' => e = .returned (.tuple #[.string r1, .bool r2]) ∧ Below w.heap.size w w' := by
 unfold spec_RootOf.f at h
 by_cases hc : Go.Proofs.Ytnplghcbdaiogaa.QZ.smlB l0_0 = true
 ·rw [if_pos hc] at h
  have hr := yM h; have := Go.Proofs.Ytnplghcbdaiogaa.QC.rootS l0_0 ((Go.Proofs.Ytnplghcbdaiogaa.QZ.smlB_iff l0_0).1 hc) A0_0 c0_0 hc0_0 w hr0_0; rw [hr] at this; exact this
 ·rw [if_neg hc] at h
  cases h
end Go.Proofs.Ytnplghcbdaiogaa.PA
end
section
namespace Go.Proofs.Ytnplghcbdaiogaa.QY
open Go.RowKit Go.Proofs.YtnplghcbdaiogaaW.PrintWords Go.Proofs.YtnplghcbdaiogaaW.PrintLast Go.Proofs.YtnplghcbdaiogaaW.PrintMore Go.Proofs.Ytnplghcbdaiogaa.PA Go.Proofs.Ytnplghcbdaiogaa.QW
attribute [local go_sem] max2_int min2_int max_two min_two max_three min_three max_four min_four
set_option linter.unusedVariables false
set_option linter.unusedSimpArgs false
set_option maxHeartbeats 4000000
set_option maxRecDepth 100000
def Post74 (n : Nat) (w0 w : World) (gg : Nat) (A : Option Addr) (m c : Nat) (R : Option (T × Nat)) (e : Ending) (w' : World) : Prop := match R with
 | none => e = .returned (.tuple #[.pointer none, .bool false]) ∧ Below w0.heap.size w0 w'
 | some (t, nx) => ∃ x : S74, e = .returned (.tuple #[.pointer (some ⟨x.adr, 0, none⟩), .bool true]) ∧ er74 x = t ∧ k74p.M w' w0.heap.size (fun k => w.heap.size ≤ k) x [.pointer (some ⟨x.adr, 0, none⟩)] ∧ Below w0.heap.size w0 w' ∧ KeepBut w w' gg none ∧ w'.heap[gg]? = some (.cells #[.slice A m c, .int .i64 (nx : Int)] 101 (0, 0))
def nodeI.T3 : Bool × List (List Nat × List Nat) := (true, [([], []), ([0], [0]), ([1], [1]), ([2], [2]), ([], []), ([4], [4]), ([5], [5]), ([6], [6]), ([3, 7], [3, 7]), ([8], [8]), ([], []), ([10, 9, 0, 1, 2, 3, 4, 5, 6, 7, 8, 9, 10], [9, 10])])
def nodeI.B3 : List Nat := [0, 1, 3, 7, 0, 16, 48, 112, 255, 511, 0, 2047]
theorem nodeI.tab3 : rtab .any (opsOf Try.f61 3) = nodeI.T3 := by kernel_rfl
theorem nodeI.bits3 : waitsOk nodeI.T3.2 nodeI.B3 = true := by kernel_rfl
def nodeI.T7 : Bool × List (List Nat × List Nat) := (true, [([], []), ([0], [0]), ([1], [1]), ([], []), ([3], [3]), ([4, 2], [4]), ([2, 5], [2, 5]), ([6], [6]), ([7, 5, 0, 1, 2, 3, 4, 5, 6, 7], [7])])
def nodeI.B7 : List Nat := [0, 1, 3, 0, 8, 31, 63, 127, 255]
theorem nodeI.tab7 : rtab .any (opsOf Try.f61 7) = nodeI.T7 := by kernel_rfl
theorem nodeI.bits7 : waitsOk nodeI.T7.2 nodeI.B7 = true := by kernel_rfl
theorem nodeI (ps : List S97) (hG : Sml ps) (A : Option Addr) (c : Nat) (hc : ps.length ≤ c) (w0 : World) (hC : Kd.C k97 w0 A ps.length ps) (gg : Nat) (hgg : w0.heap.size ≤ gg) : ∀ (n at_ : Nat) (w : World), at_ ≤ ps.length → ps.length ≤ at_ + n → Below w0.heap.size w0 w → w.heap[gg]? = some (.cells #[.slice A ps.length c, .int .i64 (at_ : Int)] 101 (0, 0)) →
  Calls Try.prog 61 #[.pointer (some ⟨gg, 0, none⟩)] w fun e w' => Post74 n w0 w gg A ps.length c (readF ps n at_) e w' := by
 intro n
 induction n with
 | zero =>
  intro at_ w ha hn hb hk
  have BKG := zA hk
  have HB := zA hb
  have hx0 : w.cell? ⟨gg, 0, none⟩ = some (.slice A ps.length c) := (zP hk 0).trans rfl
  have hx1 : w.cell? ⟨gg, 1, none⟩ = some (.int .i64 (at_ : Int)) := (zP hk 1).trans rfl
  have R := zA (show readF ps 0 at_ = none from rfl)
  have b1 : ((at_ : Int) == (ps.length : Int)) = true := beq_iff_eq.mpr (by omega)
  have b2 : (at_ == ps.length) = true := beq_iff_eq.mpr (by omega)
  have hu101 := Try.underlying101
  clear hb hk hC hG
  go_enter Try.func61, Try.ntmps61
  go_wp2
  repeat (go_quiet (fail); try go_wp2)
  go_ret2
  exact (show Post74 0 w0 w gg A ps.length c (readF ps 0 at_) _ _ from (by rw [R.out]; exact ⟨by first | rfl | (simp <;> rfl), by repeat (first | exact HB.out | apply zH | apply zF | apply zG)⟩))
 | succ n ih =>
  intro at_ w ha hn hb hk
  have BKG := zA hk
  have HB := zA hb
  have hx0 : w.cell? ⟨gg, 0, none⟩ = some (.slice A ps.length c) := (zP hk 0).trans rfl
  have hx1 : w.cell? ⟨gg, 1, none⟩ = some (.int .i64 (at_ : Int)) := (zP hk 1).trans rfl
  have hu101 := Try.underlying101
  have hu97 := Try.underlying97
  have hu74 := Try.underlying74
  by_cases h : at_ < ps.length
  ·obtain ⟨z, hz⟩ : ∃ z : Int, z = (at_ : Int) := ⟨_, rfl⟩
   rw [← hz] at hk hx1 BKG
   have b1 : (z == (ps.length : Int)) = false := beq_eq_false_iff_ne.2 (by omega)
   have b2 : decide (z = (ps.length : Int)) = false := decide_eq_false (by omega)
   have b4 : decide (z < (ps.length : Int)) = true := decide_eq_true (by omega)
   have b5 : decide (0 ≤ z) = true := decide_eq_true (by omega)
   have b6 : (0 ≤ z) = True := eq_true (by omega)
   have b7 : (z < (ps.length : Int)) = True := eq_true (by omega)
   obtain ⟨ad, A0, c0, A1, c1, A2, c2, eA, hy0, hy1, hy2, l0, g0, l1, g1, l2, g2⟩ := at_T97 hC z (by omega) (by omega)
   subst eA
   have ep : ps[at_]? = some (rd_T97 ps z) := by
    unfold rd_T97
    rw [hz, Int.toNat_natCast, List.getD_eq_getElem?_getD, List.getElem?_eq_getElem h]; rfl
   obtain ⟨p, hp⟩ : ∃ p, p = rd_T97 ps z := ⟨_, rfl⟩
   rw [← hp] at ep hy0 hy1 hy2 l0 g0 l1 g1 l2 g2
   have HZ := zA hz
   have HH := zA h
   have HP := zA ep
   have HX0 := zA hy0
   have HX1 := zA hy1
   have HX2 := zA hy2
   have HL0 := zA l0
   have HR0 := zA g0
   have HL1 := zA l1
   have HR1 := zA g1
   have HL2 := zA l2
   have HR2 := zA g2
   have HG := zA hG
   have HN := zA hn
   have HA := zA ha
   clear hz h hp ep hy0 hy1 hy2 l0 g0 l1 g1 l2 g2 hb hk hn ha
   go_enter Try.func61, Try.ntmps61
   go_wp2
   repeat (go_quiet (fail); try go_wp2)
   have n0_ := zA (zN (zL BKG.out nq))
   have n1_ := zA (zG (zF HB.out nq))
   have HKB := zA (keep_drew (keep_drewN (KeepBut.refl w gg none) nq))
   have HGW := zA (blk_lt BKG.out)
   clear BKG HB hx0 hx1
   have BKG := n0_
   have HB := n1_
   clear n0_ n1_
   refine start_ (n := 12) (S := fun w' => w'.cell? ⟨gg, 0, none⟩ = some (.slice (some ad) ps.length c) ∧ w'.cell? ⟨gg, 1, none⟩ = some (.int .i64 z) ∧ w'.cell? (ad.add (z.toNat * 3)) = some (.slice A0 p.f0.length c0) ∧ w'.cell? ⟨(ad.add (z.toNat * 3)).block, (ad.add (z.toNat * 3)).off + 1, none⟩ = some (.slice A1 p.f1.length c1) ∧ w'.cell? ⟨(ad.add (z.toNat * 3)).block, (ad.add (z.toNat * 3)).off + 2, none⟩ = some (.slice A2 p.f2.length c2)) (ds := [11]) #[false, false, false, false, false, false, false, false, false, false, false, false] (by kernel_rfl) rfl rfl ⟨(zP BKG.out 0).trans rfl, (zP BKG.out 1).trans rfl, (HB.out.cell (zB w0 _ HX0.out)).trans HX0.out, (HB.out.cell (zB w0 _ HX1.out)).trans HX1.out, (HB.out.cell (zB w0 _ HX2.out)).trans HX2.out⟩ (fun hHeld => ?_)
   refine with_tabW nodeI.tab3 nodeI.bits3 (fun HT_ HW_ => ?_)
   generalize (w.drewN nq).drew = w3 at BKG HB HKB hHeld ⊢
   refine pure_ (i := 0) (N := some 20) (v := ?_) (a' := ?_) #[true, false, false, false, false, false, false, false, false, false, false, false] rfl rfl (any_of HT_.out (by kernel_rfl)) (fun _ _ _ h => h) (Or.inl ⟨by rfl, ?_⟩) ?_ ?_; rotate_left
   ·intro w'
    go_simp
    with_reducible rfl
   rotate_left
   ·simp only [Act.put, zC, zD, zE, i64_w, i32_w]
    rfl
   refine pure_ (i := 1) (N := some 21) (v := ?_) (a' := ?_) #[true, true, false, false, false, false, false, false, false, false, false, false] rfl rfl (any_of HT_.out (by kernel_rfl)) (fun _ _ _ h => h) (Or.inl ⟨by rfl, ?_⟩) ?_ ?_; rotate_left
   ·intro w'
    go_simp
    with_reducible rfl
   rotate_left
   ·simp only [Act.put, zC, zD, zE, i64_w, i32_w]
    rfl
   refine pure_ (i := 2) (N := some 22) (v := ?_) (a' := ?_) #[true, true, true, false, false, false, false, false, false, false, false, false] rfl rfl (any_of HT_.out (by kernel_rfl)) (fun _ _ _ h => h) (Or.inl ⟨by rfl, ?_⟩) ?_ ?_; rotate_left
   ·intro w'
    go_simp
    with_reducible rfl
   rotate_left
   ·simp only [Act.put, zC, zD, zE, i64_w, i32_w]
    rfl
   refine pure_ (i := 4) (N := some 24) (v := ?_) (a' := ?_) #[true, true, true, false, true, false, false, false, false, false, false, false] rfl rfl (any_of HT_.out (by kernel_rfl)) (fun _ _ _ h => h) (Or.inl ⟨by rfl, ?_⟩) ?_ ?_; rotate_left
   ·intro w'
    go_simp
    with_reducible rfl
   rotate_left
   ·simp only [Act.put, zC, zD, zE, i64_w, i32_w]
    rfl
   refine pure_ (i := 5) (N := some 25) (v := ?_) (a' := ?_) #[true, true, true, false, true, true, false, false, false, false, false, false] rfl rfl (any_of HT_.out (by kernel_rfl)) (fun _ _ _ h => h) (Or.inl ⟨by rfl, ?_⟩) ?_ ?_; rotate_left
   ·intro w'
    go_simp
    with_reducible rfl
   rotate_left
   ·simp only [Act.put, zC, zD, zE, i64_w, i32_w]
    rfl
   refine pure_ (i := 6) (N := some 26) (v := ?_) (a' := ?_) #[true, true, true, false, true, true, true, false, false, false, false, false] rfl rfl (any_of HT_.out (by kernel_rfl)) (fun _ _ _ h => h) (Or.inl ⟨by rfl, ?_⟩) ?_ ?_; rotate_left
   ·intro w'
    go_simp
    with_reducible rfl
   rotate_left
   ·simp only [Act.put, zC, zD, zE, i64_w, i32_w]
    rfl
   refine take_ (i := 3) (N := some 23) (v := ?_) (a' := ?_) #[true, true, true, true, true, true, true, false, false, false, false, false] rfl rfl (take_ofW HT_.out HW_.out (by kernel_rfl)) (fun _ _ _ h => h) (Or.inl ⟨by rfl, ?_⟩) hHeld ?_ ?_; rotate_left
   ·rintro w' ⟨s0, s1, s2, s3, s4⟩
    go_simp
    with_reducible rfl
   rotate_left
   ·simp only [Act.put, zC, zD, zE, i64_w, i32_w]
    rfl
   refine take_ (i := 7) (N := some 27) (v := ?_) (a' := ?_) #[true, true, true, true, true, true, true, true, false, false, false, false] rfl rfl (take_ofW HT_.out HW_.out (by kernel_rfl)) (fun _ _ _ h => h) (Or.inl ⟨by rfl, ?_⟩) hHeld ?_ ?_; rotate_left
   ·rintro w' ⟨s0, s1, s2, s3, s4⟩
    go_simp
    with_reducible rfl
   rotate_left
   ·simp only [Act.put, zC, zD, zE, i64_w, i32_w]
    rfl
   refine pure_ (i := 8) (N := some 28) (v := ?_) (a' := ?_) #[true, true, true, true, true, true, true, true, true, false, false, false] rfl rfl (any_of HT_.out (by kernel_rfl)) (fun _ _ _ h => h) (Or.inl ⟨by rfl, ?_⟩) ?_ ?_; rotate_left
   ·intro w'
    go_simp
    with_reducible rfl
   rotate_left
   ·simp only [Act.put, zC, zD, zE, i64_w, i32_w]
    rfl
   refine take_ (i := 9) (N := some 29) (v := ?_) (a' := ?_) #[true, true, true, true, true, true, true, true, true, true, false, false] rfl rfl (take_ofW HT_.out HW_.out (by kernel_rfl)) (fun _ _ _ h => h) (Or.inl ⟨by rfl, ?_⟩) hHeld ?_ ?_; rotate_left
   ·rintro w' ⟨s0, s1, s2, s3, s4⟩
    go_simp
    with_reducible rfl
   rotate_left
   ·simp only [Act.put, zC, zD, zE, i64_w, i32_w]
    rfl
   refine one_ (i := 10) (N := some 4) #[true, true, true, true, true, true, true, true, true, true, true, false] rfl rfl (one_of HT_.out (by kernel_rfl)) (by decide) (fun K hK => ?_)
   refine box_step ?hg (N := 4) ?hd (cs := #[.slice none 0 0, .slice none 0 0, .slice none 0 0]) (t := 97) ?hr ?_; (case hd => rfl); (case hg => rfl); (case hr => first | (go_simp; done) | (go_simp; rfl))
   intro gb4 hg w4 hbox hb
   have n0_ := zA (blk_below BKG.out hb)
   have n1_ := zA (zAD HB.out hb)
   have n2_ := zA (HKB.out.trans (KeepBut.of_below hb gg none) (.inl rfl))
   have NBG4 := zA (by rw [hg]; exact zK (blk_lt BKG.out) : gg ≠ gb4)
   have GW4 := zA (by rw [hg]; exact HKB.out.1 : w.heap.size ≤ gb4)
   clear BKG HB HKB hb hg
   have BKG := n0_
   have HB := n1_
   have HKB := n2_
   have BK4 := zA hbox
   clear n0_ n1_ n2_ hbox
   refine hK.out _ _ ⟨(zP BKG.out 0).trans rfl, (zP BKG.out 1).trans rfl, (HB.out.cell (zB w0 _ HX0.out)).trans HX0.out, (HB.out.cell (zB w0 _ HX1.out)).trans HX1.out, (HB.out.cell (zB w0 _ HX2.out)).trans HX2.out⟩ (fun hHeld => ?_)
   clear hK K
   refine norm_ (a' := ?_) ?_ ?_; rotate_left
   ·show Act.put _ (some 4) _ = _
    simp only [Act.put, zC, zD, zE, i64_w, i32_w]; rfl
   refine last_ (i := 11) (N := none) #[true, true, true, true, true, true, true, true, true, true, true, true] rfl rfl (one_of HT_.out (by kernel_rfl)) (by decide) (fun K hK => ?_)
   have hs0 : w4.cell? ⟨gb4, 0, none⟩ = some (.slice none 0 0) := (zP BK4.out 0).trans rfl
   have hs1 : w4.cell? ⟨gb4, 1, none⟩ = some (.slice none 0 0) := (zP BK4.out 1).trans rfl
   have hs2 : w4.cell? ⟨gb4, 2, none⟩ = some (.slice none 0 0) := (zP BK4.out 2).trans rfl
   have hf0 := zO BK4.out 0
   have hf1 := zO BK4.out 1
   have hf2 := zO BK4.out 2
   refine skip_ (w1 := ?_) (by rfl) rfl ?_ ?_; rotate_left
   ·go_simp
    rfl
   refine hK.out _ _ ?_
   clear hK K
   refine done_ (done_of HT_.out (by kernel_rfl)) ?_
   obtain ⟨w5, hw5⟩ : ∃ q, q = ((w4.setCell ⟨gb4, 0, none⟩ (.slice A0 p.f0.length c0)).setCell ⟨gb4, 1, none⟩ (.slice A1 p.f1.length c1)).setCell ⟨gb4, 2, none⟩ (.slice A2 p.f2.length c2) := ⟨_, rfl⟩
   have HG4 := zA (show w0.heap.size ≤ gb4 from by have := GW4.out; have := HGW.out; omega)
   have n0_ := zA (show w5.heap[gg]? = some (.cells #[.slice (some ad) ps.length c, .int .i64 z] 101 (0, 0)) from by rw [hw5]; exact blk_far (blk_far (blk_far BKG.out NBG4.out _) NBG4.out _) NBG4.out _)
   have n1_ := zA (show w5.heap[gb4]? = some (.cells #[.slice A0 p.f0.length c0, .slice A1 p.f1.length c1, .slice A2 p.f2.length c2] 97 (0, 0)) from by rw [hw5]; exact blk_put (blk_put (blk_put BK4.out 0 _ rfl) 1 _ rfl) 2 _ rfl)
   have n2_ := zA (show Below w0.heap.size w0 w5 from by rw [hw5]; exact zI (zI (zI HB.out HG4.out) HG4.out) HG4.out)
   have n3_ := zA (show KeepBut w w5 gg none from by rw [hw5]; exact keep_far (keep_far (keep_far HKB.out GW4.out _) GW4.out _) GW4.out _)
   rw [← hw5]
   clear BKG BK4 HB HKB hw5 hs0 hs1 hs2 hf0 hf1 hf2 hHeld HT_ HW_
   have BKG := n0_
   have BK4 := n1_
   have HB := n2_
   have HKB := n3_
   clear n0_ n1_ n2_ n3_
   have HLN := zA (show p.f0.length < 1099511627776 ∧ p.f1.length < 1099511627776 ∧ p.f2.length < 1099511627776 from HG.out.2 p (List.mem_of_getElem? HP.out))
   obtain ⟨z1, hz1⟩ : ∃ q, q = wrap64 (z + 1) := ⟨_, rfl⟩
   have hw1 : wrap64 (z + 1) = z1 := hz1.symm
   have HZ1 := zA (show z1 = ((at_ + 1 : Nat) : Int) from by rw [hz1]; have := HG.out.1; have := HZ.out; have := HH.out; unfold wrap64; omega)
   clear hz1
   have hx1 : w5.cell? ⟨gg, 1, none⟩ = some (.int .i64 z) := (zP BKG.out 1).trans rfl
   have hfg := zO BKG.out 1
   have hnb := NBG4.out
   have hnc := NBG4.out.symm
   have hz0 : w5.cell? ⟨gb4, 0, none⟩ = some (.slice A0 p.f0.length c0) := (zP BK4.out 0).trans rfl
   have hzz1 : w5.cell? ⟨gb4, 1, none⟩ = some (.slice A1 p.f1.length c1) := (zP BK4.out 1).trans rfl
   have hz2 : w5.cell? ⟨gb4, 2, none⟩ = some (.slice A2 p.f2.length c2) := (zP BK4.out 2).trans rfl
   have hw2 : wrap64 ((p.f0.length : Int) + 1) = ((p.f0.length + 1 : Nat) : Int) := by have := HLN.out; unfold wrap64; omega
   by_cases k1 : p.f0.length ≤ 4
   ·have e1 : decide ((4 : Int) < (p.f0.length : Int)) = false := decide_eq_false (by omega)
    have e1' : decide (4 < p.f0.length) = false := decide_eq_false (by omega)
    have K1 := zA k1
    clear k1
    by_cases k2 : p.f1.length = p.f0.length
    ·have e2 : (((p.f1.length : Int)) != (p.f0.length : Int)) = false := bne_eq_false_iff_eq.mpr (by omega)
     have e2' : (p.f1.length != p.f0.length) = false := bne_eq_false_iff_eq.mpr k2
     have e2'' : (p.f1.length == p.f0.length) = true := beq_iff_eq.mpr k2
     have K2 := zA k2
     clear k2
     by_cases k3 : p.f2.length = 0
     ·have e3 : decide ((0 : Int) < (p.f2.length : Int)) = false := decide_eq_false (by omega)
      have e3' : decide (0 < p.f2.length) = false := decide_eq_false (by omega)
      have K3 := zA k3
      clear k3
      have RR := zA (show readF ps (n + 1) at_ = (match readK (readF ps n) p.f2 (at_ + 1) with | none => none | some (l, e) => some (⟨p.f0, p.f1, l⟩, e)) from by rw [readF, HP.out]; exact if_pos ⟨K1.out, K2.out, .inl K3.out⟩)
      go_wp2
      have HW1 := zA hw1
      (try clear hw1); (try clear hw2); (try clear e1); (try clear e1'); (try clear e2); (try clear e2'); (try clear e2''); (try clear e3); (try clear e3'); (try clear e3''); (try clear e3d); (try clear e4); (try clear e4'); (try clear e4''); (try clear e4x); (try clear b1); (try clear b2); (try clear b4); (try clear b5); (try clear b6); (try clear b7)
      clear hx1 hfg hnb hnc hz0 hzz1 hz2
      have n0_ := zA (show (w5.setCell ⟨gg, 1, none⟩ (.int .i64 z1)).drew.heap[gg]? = some (.cells #[.slice (some ad) ps.length c, .int .i64 z1] 101 (0, 0)) from zN (blk_put BKG.out 1 _ rfl))
      have n1_ := zA (show (w5.setCell ⟨gg, 1, none⟩ (.int .i64 z1)).drew.heap[gb4]? = some (.cells #[.slice A0 p.f0.length c0, .slice A1 p.f1.length c1, .slice A2 p.f2.length c2] 97 (0, 0)) from zN (blk_far BK4.out NBG4.out.symm _))
      have n2_ := zA (zG (zI HB.out hgg (j := 1) (v := .int .i64 z1)))
      have n3_ := zA (keep_drew (KeepBut.set_ HKB.out 1 (.int .i64 z1)))
      clear BKG BK4 HB HKB
      have BKG := n0_
      have BK4 := n1_
      have HB := n2_
      have HKB := n3_
      clear n0_ n1_ n2_ n3_
      have HCL0 := zA (show slices_Clone_string_string.f p.f0 = some p.f0 from by unfold slices_Clone_string_string.f; rw [Option.bind_some, if_pos (by have := HLN.out; simp only [List.length_nil]; omega), List.nil_append])
      have HCL1 := zA (show slices_Clone_string_string.f p.f1 = some p.f1 from by unfold slices_Clone_string_string.f; rw [Option.bind_some, if_pos (by have := HLN.out; simp only [List.length_nil]; omega), List.nil_append])
      refine start_ (n := 9) (S := fun w' => w'.cell? ⟨gb4, 0, none⟩ = some (.slice A0 p.f0.length c0) ∧ w'.cell? ⟨gb4, 1, none⟩ = some (.slice A1 p.f1.length c1)) (ds := []) #[false, false, false, false, false, false, false, false, false] (by kernel_rfl) rfl rfl ⟨(zP BK4.out 0).trans rfl, (zP BK4.out 1).trans rfl⟩ (fun hHeld => ?_)
      refine with_tabW nodeI.tab7 nodeI.bits7 (fun HT_ HW_ => ?_)
      generalize (w5.setCell ⟨gg, 1, none⟩ (.int .i64 z1)).drew = w6 at BKG BK4 HB HKB hHeld ⊢
      refine pure_ (i := 0) (N := some 66) (v := ?_) (a' := ?_) #[true, false, false, false, false, false, false, false, false] rfl rfl (any_of HT_.out (by kernel_rfl)) (fun _ _ _ h => h) (Or.inl ⟨by rfl, ?_⟩) ?_ ?_; rotate_left
      ·intro w'
       go_simp
       with_reducible rfl
      rotate_left
      ·simp only [Act.put, zC, zD, zE, i64_w, i32_w]
       rfl
      refine take_ (i := 1) (N := some 67) (v := ?_) (a' := ?_) #[true, true, false, false, false, false, false, false, false] rfl rfl (take_ofW HT_.out HW_.out (by kernel_rfl)) (fun _ _ _ h => h) (Or.inl ⟨by rfl, ?_⟩) hHeld ?_ ?_; rotate_left
      ·rintro w' ⟨s0, s1⟩
       go_simp
       with_reducible rfl
      rotate_left
      ·simp only [Act.put, zC, zD, zE, i64_w, i32_w]
       rfl
      refine pure_ (i := 3) (N := some 69) (v := ?_) (a' := ?_) #[true, true, false, true, false, false, false, false, false] rfl rfl (any_of HT_.out (by kernel_rfl)) (fun _ _ _ h => h) (Or.inl ⟨by rfl, ?_⟩) ?_ ?_; rotate_left
      ·intro w'
       go_simp
       with_reducible rfl
      rotate_left
      ·simp only [Act.put, zC, zD, zE, i64_w, i32_w]
       rfl
      refine take_ (i := 4) (N := some 70) (v := ?_) (a' := ?_) #[true, true, false, true, true, false, false, false, false] rfl rfl (take_ofW HT_.out HW_.out (by kernel_rfl)) (fun _ _ _ h => h) (Or.inl ⟨by rfl, ?_⟩) hHeld ?_ ?_; rotate_left
      ·rintro w' ⟨s0, s1⟩
       go_simp
       with_reducible rfl
      rotate_left
      ·simp only [Act.put, zC, zD, zE, i64_w, i32_w]
       rfl
      refine one_ (i := 2) (N := some 68) #[true, true, true, true, true, false, false, false, false] rfl rfl (one_of HT_.out (by kernel_rfl)) (by decide) (fun K hK => ?_)
      refine goes_ Try.func65 (by kernel_rfl) rfl #[.slice A0 p.f0.length c0] (by rfl) rfl rfl (by (try simp only [zAA, zAB, zAC]); first | done | rfl | (simp only [zZ, zY]; rfl)) ?_
      with_reducible refine (slices_Clone_string_string.calls _ _ p.f0 p.f0 _ ?side1 ?side2 HCL0.out).mono ?_
      (case side1 => exact Kd.C_below HR0.out HB.out); (case side2 => exact HL0.out)
      rintro e w7 ⟨v68, rfl, ho, hb⟩
      refine ⟨_, rfl, ?_⟩
      have n0_ := zA (Kd.R_lower (Kd.R_mono (Kd.R_bound ho) (fun k hk => Nat.le_trans HKB.out.1 hk.2.1) : Kd.R Kd.string 9 w7 w6.heap.size (fun k => w.heap.size ≤ k) v68 p.f0) (zAE HB.out))
      have n1_ := zA (blk_below BKG.out hb)
      have n2_ := zA (blk_below BK4.out hb)
      have n3_ := zA (zAD HB.out hb)
      have n4_ := zA (HKB.out.trans (KeepBut.of_below hb gg none) (.inl rfl))
      clear BKG BK4 HB HKB ho hb
      have HO68 := n0_
      have BKG := n1_
      have BK4 := n2_
      have HB := n3_
      have HKB := n4_
      clear n0_ n1_ n2_ n3_ n4_
      refine hK.out _ _ ⟨(zP BK4.out 0).trans rfl, (zP BK4.out 1).trans rfl⟩ (fun hHeld => ?_)
      clear hK K
      refine norm_ (a' := ?_) ?_ ?_; rotate_left
      ·show Act.put _ (some 68) _ = _
       simp only [Act.put, zC, zD, zE, i64_w, i32_w]; rfl
      refine one_ (i := 5) (N := some 71) #[true, true, true, true, true, true, false, false, false] rfl rfl (one_of HT_.out (by kernel_rfl)) (by decide) (fun K hK => ?_)
      refine goes_ Try.func65 (by kernel_rfl) rfl #[.slice A1 p.f1.length c1] (by rfl) rfl rfl (by (try simp only [zAA, zAB, zAC]); first | done | rfl | (simp only [zZ, zY]; rfl)) ?_
      with_reducible refine (slices_Clone_string_string.calls _ _ p.f1 p.f1 _ ?side1 ?side2 HCL1.out).mono ?_
      (case side1 => exact Kd.C_below HR1.out HB.out); (case side2 => exact HL1.out)
      rintro e w8 ⟨v71, rfl, ho, hb⟩
      refine ⟨_, rfl, ?_⟩
      have n0_ := zA (Kd.R_lower (Kd.R_mono (Kd.R_bound ho) (fun k hk => Nat.le_trans HKB.out.1 hk.2.1) : Kd.R Kd.string 9 w8 w7.heap.size (fun k => w.heap.size ≤ k) v71 p.f1) (zAE HB.out))
      have n1_ := zA (blk_below BKG.out hb)
      have n2_ := zA (blk_below BK4.out hb)
      have n3_ := zA (zAD HB.out hb)
      have n4_ := zA (HKB.out.trans (KeepBut.of_below hb gg none) (.inl rfl))
      have n5_ := zA (Kd.R_below HO68.out hb)
      clear BKG BK4 HB HKB ho hb HO68
      have HO71 := n0_
      have BKG := n1_
      have BK4 := n2_
      have HB := n3_
      have HKB := n4_
      have HO68 := n5_
      clear n0_ n1_ n2_ n3_ n4_ n5_
      obtain ⟨A68, c68, eo⟩ := Kd.R_slice HO68.out
      subst eo
      obtain ⟨A71, c71, eo⟩ := Kd.R_slice HO71.out
      subst eo
      refine hK.out _ _ ⟨(zP BK4.out 0).trans rfl, (zP BK4.out 1).trans rfl⟩ (fun hHeld => ?_)
      clear hK K
      refine norm_ (a' := ?_) ?_ ?_; rotate_left
      ·show Act.put _ (some 71) _ = _
       simp only [Act.put, zC, zD, zE, i64_w, i32_w]; rfl
      refine pure_ (i := 6) (N := some 72) (v := ?_) (a' := ?_) #[true, true, true, true, true, true, true, false, false] rfl rfl (any_of HT_.out (by kernel_rfl)) (fun _ _ _ h => h) (Or.inl ⟨by rfl, ?_⟩) ?_ ?_; rotate_left
      ·intro w'
       go_simp
       with_reducible rfl
      rotate_left
      ·simp only [Act.put, zC, zD, zE, i64_w, i32_w]
       rfl
      refine one_ (i := 7) (N := some 73) #[true, true, true, true, true, true, true, true, false] rfl rfl (one_of HT_.out (by kernel_rfl)) (by decide) (fun K hK => ?_)
      refine box_step ?hg (N := 73) ?hd (cs := #[.slice A68 p.f0.length c68, .slice A71 p.f1.length c71, .slice none 0 0]) (t := 74) ?hr ?_; (case hd => rfl); (case hg => rfl); (case hr => first | (go_simp; done) | (go_simp; rfl))
      intro gb5 hg w9 hbox hb
      have n1_ := zA (blk_below BKG.out hb)
      have n2_ := zA (blk_below BK4.out hb)
      have n3_ := zA (zAD HB.out hb)
      have n4_ := zA (HKB.out.trans (KeepBut.of_below hb gg none) (.inl rfl))
      have n5_ := zA (Kd.R_below HO68.out hb)
      have n6_ := zA (Kd.R_below HO71.out hb)
      have GW5 := zA (by rw [hg]; exact HKB.out.1 : w.heap.size ≤ gb5)
      have NBG5 := zA (by rw [hg]; exact zK (blk_lt BKG.out) : gg ≠ gb5)
      clear BKG BK4 HB HKB hb HO68 HO71 hg
      have BKG := n1_
      have BK4 := n2_
      have HB := n3_
      have HKB := n4_
      have HO68 := n5_
      have HO71 := n6_
      have BK5 := zA hbox
      clear n1_ n2_ n3_ n4_ n5_ n6_ hbox
      refine hK.out _ _ ⟨(zP BK4.out 0).trans rfl, (zP BK4.out 1).trans rfl⟩ (fun hHeld => ?_)
      clear hK K
      refine norm_ (a' := ?_) ?_ ?_; rotate_left
      ·show Act.put _ (some 73) _ = _
       simp only [Act.put, zC, zD, zE, i64_w, i32_w]; rfl
      refine pure_ (i := 8) (N := some 5) (v := ?_) (a' := ?_) #[true, true, true, true, true, true, true, true, true] rfl rfl (any_of HT_.out (by kernel_rfl)) (fun _ _ _ h => h) (Or.inl ⟨by rfl, ?_⟩) ?_ ?_; rotate_left
      ·intro w'
       go_simp
       with_reducible rfl
      rotate_left
      ·simp only [Act.put, zC, zD, zE, i64_w, i32_w]
       rfl
      refine done_ (done_of HT_.out (by kernel_rfl)) ?_
      clear hHeld HT_ HW_
      have hz2 : w9.cell? ⟨gb4, 2, none⟩ = some (.slice A2 p.f2.length c2) := (zP BK4.out 2).trans rfl
      go_wp2
      go_loopg [77] (p.f2.length + 1) (fun kq v77 w' => ∃ (i nx : Nat) (kids : List S74) (vC : Value), v77 = .int .i64 (i : Int) ∧ Aside0 (kq + i = p.f2.length + 1) ∧ Aside0 (i ≤ p.f2.length) ∧ Aside0 (readK (readF ps n) p.f2 (at_ + 1) = (match readK (readF ps n) (p.f2.drop i) nx with | none => none | some (l, e) => some (kids.map er74 ++ l, e))) ∧ Aside0 (kids.length = i) ∧ Aside0 (at_ < nx ∧ nx ≤ ps.length) ∧ Aside0 (Kd.R Kd.string 9 w' w0.heap.size (fun k => w.heap.size ≤ k) (.slice A68 p.f0.length c68) p.f0) ∧ Aside0 (Kd.R Kd.string 9 w' w0.heap.size (fun k => w.heap.size ≤ k) (.slice A71 p.f1.length c71) p.f1) ∧ Aside0 (Kd.R k74p 60 w' w0.heap.size (fun k => w.heap.size ≤ k ∧ k ≠ gb5) vC kids) ∧ Aside0 (w'.heap[gb5]? = some (.cells #[.slice A68 p.f0.length c68, .slice A71 p.f1.length c71, vC] 74 (0, 0))) ∧ Aside0 (w'.heap[gg]? = some (.cells #[.slice (some ad) ps.length c, .int .i64 (nx : Int)] 101 (0, 0))) ∧ Aside0 (Below w0.heap.size w0 w') ∧ Aside0 (KeepBut w w' gg none))
      case atStart => exact ⟨0, at_ + 1, [], .slice none 0 0, rfl, ⟨by omega⟩, ⟨by omega⟩, ⟨by rw [List.drop_zero]; cases readK (readF ps n) p.f2 (at_ + 1) with | none => rfl | some q => rfl⟩, ⟨rfl⟩, ⟨by have := HH.out; omega⟩, HO68, HO71, ⟨Kd.R_nil _ _ _ _ _⟩, BK5, ⟨by rw [← HZ1.out]; exact BKG.out⟩, HB, HKB⟩
      case round =>
       clear HO68 HO71 BK5 BKG BK4 HB HKB hz2
       obtain ⟨i, nx, kids, vC, rfl, HK, HI, HRD, HKL, HNX, HO68, HO71, HOC, BK5, BKG, HB, HKB⟩ := hrel
       have hcg : wr.cell? ⟨gg, 1, none⟩ = some (.int .i64 (nx : Int)) := (zP BKG.out 1).trans rfl
       by_cases hi : i < p.f2.length
       ·obtain ⟨g1, rfl⟩ : ∃ g1, gk = g1 + 1 := ⟨gk - 1, by have := HK.out; omega⟩
        have q1 : ((i : Int) < (p.f2.length : Int)) = True := eq_true (by omega)
        have q2 : (i < p.f2.length) = True := eq_true hi
        have q3 : decide ((i : Int) < (p.f2.length : Int)) = true := decide_eq_true (by omega)
        obtain ⟨adk, ek, hk0⟩ := Kd.at_int HR2.out (i : Int) (by omega) (by omega)
        subst ek
        rw [Int.toNat_natCast] at hk0
        have hk1 := (HB.out.cell (zB w0 _ hk0)).trans hk0
        obtain ⟨kk, hkk⟩ : ∃ q, q = rd p.f2 (i : Int) := ⟨_, rfl⟩
        rw [← hkk] at hk0 hk1
        have ED : p.f2.drop i = kk :: p.f2.drop (i + 1) := by
         rw [List.drop_eq_getElem_cons hi, hkk]
         congr 1
         unfold rd
         rw [Int.toNat_natCast, List.getD_eq_getElem?_getD, List.getElem?_eq_getElem hi]; rfl
        have HED := zA ED
        clear ED hkk hk0
        by_cases ck : kk = (nx : Int)
        ·have c1 : (kk != (nx : Int)) = false := bne_eq_false_iff_eq.mpr ck
         have c2 : (kk == (nx : Int)) = true := beq_iff_eq.mpr ck
         have CK := zA ck
         have hI := ih nx wr HNX.out.2 (by have := HNX.out; have := HN.out; omega) HB.out BKG.out
         have HRK := zA (show readK (readF ps n) (p.f2.drop i) nx = (match readF ps n nx with | none => none | some (t, e) => (match readK (readF ps n) (p.f2.drop (i + 1)) e with | none => none | some (l, e') => some (t :: l, e'))) from by rw [HED.out, readK, if_pos CK.out]; rfl)
         cases hR : readF ps n nx with
         | none =>
          rw [hR] at hI HRK
          have HRR := zA (show readF ps (n + 1) at_ = none from by rw [RR.out, HRD.out, HRK.out])
          clear ck hR
          go_wp2_with (first | ((with_reducible refine gate_callee (f := 61) rfl ?_); refine goesL_ (some 89) rfl rfl Try.func61 (by kernel_rfl) rfl #[.pointer (some ⟨gg, 0, none⟩)] rfl (by (try simp only [zAA, zAB, zAC]); first | done | rfl) ?_; refine hI.mono ?_; rintro e w10 ⟨rfl, hb⟩; refine ⟨_, rfl, ?_⟩; clear HB hcg; have HB := zA hb; clear hb))
          go_ret2
          exact (show Post74 (n + 1) w0 w gg (some ad) ps.length c (readF ps (n + 1) at_) _ _ from (by rw [HRR.out]; exact ⟨by first | rfl | (simp <;> rfl), HB.out⟩))
         | some te =>
          obtain ⟨t, e1⟩ := te
          rw [hR] at hI HRK
          have HLE := zA (readF_le ps n nx t e1 hR)
          clear ck hR
          go_wp2_with (first | ((with_reducible refine gate_callee (f := 61) rfl ?_); refine goesL_ (some 89) rfl rfl Try.func61 (by kernel_rfl) rfl #[.pointer (some ⟨gg, 0, none⟩)] rfl (by (try simp only [zAA, zAB, zAC]); first | done | rfl) ?_; refine hI.mono ?_; rintro e w10 ⟨x, rfl, hx1, hM, hb, hkb, hkg⟩; refine ⟨_, rfl, ?_⟩; have HVL := zA (Kd.R_lt HOC.out); have HGL := zA (blk_lt BK5.out); have HWS := zA hkb.1; have HWR := zA HKB.out.1; have HXE := zA hx1; have HM := zA hM; have n0_ := zA hb; have n1_ := zA hkg; have n2_ := zA (hkb.blk BK5.out (NBG5.out.symm) (by simp)); have n3_ := zA (Kd.R_keep HO68.out hkb (fun k hk => by have := HGW.out; omega)); have n4_ := zA (Kd.R_keep HO71.out hkb (fun k hk => by have := HGW.out; omega)); have n5_ := zA (Kd.R_keep HOC.out hkb (fun k hk => by have := HGW.out; have := hk.1; omega)); have n6_ := zA (HKB.out.trans hkb (.inl rfl)); clear HB BKG BK5 HO68 HO71 HOC HKB hb hkb hkg hx1 hM hcg; have HB := n0_; have BKG := n1_; have BK5 := n2_; have HO68 := n3_; have HO71 := n4_; have HOC := n5_; have HKB := n6_; clear n0_ n1_ n2_ n3_ n4_ n5_ n6_; have hc9 : w10.cell? ⟨gb5, 2, none⟩ = some vC := (zP BK5.out 2).trans rfl) | ((with_reducible refine gate_builtin (b := .append) (xs := #[.tmp 98, .tmp 100]) rfl ?_); at_builtin; refine Kd.R_append k74p (w0 := w0) w0.heap.size rfl (.tmp 98) (.tmp 100) 72 60 (.pointer none) 8 rfl Try.underlying72 info60 rfl (by decide) (by omega) vC kids x [.pointer (some ⟨x.adr, 0, none⟩)] (fun k => w.heap.size ≤ k ∧ k ≠ gb5) (fun k => wr.heap.size ≤ k) rfl rfl ?aP ?aK ?aF ?aO ?aB ?aS ?aL ?_; (case aP => exact HM.out); (case aK => exact (fun k hk => ⟨⟨by have := HWR.out; omega, by have := HGL.out; omega⟩, fun e => by have := HVL.out k e.symm; omega⟩)); (case aF => exact (fun k hk => ⟨by have := HWS.out; have := HWR.out; omega, by have := HGL.out; have := HWS.out; omega⟩)); (case aO => exact HOC.out); (case aB => exact HB.out); (case aS => exact (zAE HB.out)); (case aL => have := HLN.out; have := HKL.out; omega); intro v101 w11 ho hb hg hat; obtain ⟨ys, hys⟩ : ∃ ys, ys = kids ++ [x] := ⟨_, rfl⟩; rw [← hys] at ho; have HYS := zA hys; clear hys; have n0_ := zA ho; have n1_ := zA hb; have n2_ := zA (blk_grown BK5.out hg (Kd.R_ne HOC.out BK5.out (by decide))); have n3_ := zA (blk_grown BKG.out hg (Kd.R_ne HOC.out BKG.out (by decide))); have n4_ := zA (Kd.R_mono (Kd.R_grown (R_apart HO68.out HOC.out (by decide)) hg (fun _ hk => hk.2)) (fun _ hk => hk.1) : Kd.R Kd.string 9 w11 w0.heap.size (fun k => w.heap.size ≤ k) (.slice A68 p.f0.length c68) p.f0); have n5_ := zA (Kd.R_mono (Kd.R_grown (R_apart HO71.out HOC.out (by decide)) hg (fun _ hk => hk.2)) (fun _ hk => hk.1) : Kd.R Kd.string 9 w11 w0.heap.size (fun k => w.heap.size ≤ k) (.slice A71 p.f1.length c71) p.f1); have n6_ := zA (HKB.out.trans (KeepBut.of_grown hg gg) (by cases hvo : vC.ownBlock with | none => exact .inl rfl | some b => exact .inr ⟨b, rfl, (HOC.out.1 b hvo).1⟩)); clear HB BKG BK5 HO68 HO71 HOC HKB hc9 ho hb hg hat; have HOC := n0_; have HB := n1_; have BK5 := n2_; have BKG := n3_; have HO68 := n4_; have HO71 := n5_; have HKB := n6_; clear n0_ n1_ n2_ n3_ n4_ n5_ n6_; have hc11 : w11.cell? ⟨gb5, 2, none⟩ = some vC := (zP BK5.out 2).trans rfl; have hf11 := zO BK5.out 2; obtain ⟨A97, c97, eo⟩ := Kd.R_slice HOC.out; subst eo))
          go_roundg g1
          case measure => omega
          case rel => exact ⟨i + 1, e1, ys, _, by rw [w64N i (by have := HLN.out; omega)], ⟨by have := HK.out; omega⟩, ⟨by omega⟩, ⟨by
            rw [HRD.out, HRK.out]
            cases readK (readF ps n) (p.f2.drop (i + 1)) e1 with
            | none => rfl
            | some q =>
             show some (kids.map er74 ++ (t :: q.1), q.2) = some (ys.map er74 ++ q.1, q.2)
             rw [HYS.out, List.map_append, List.append_assoc, ← HXE.out]; rfl⟩, ⟨by rw [HYS.out, List.length_append, HKL.out]; rfl⟩, ⟨by have := HNX.out; have := HLE.out; omega⟩,
           ⟨Kd.R_set HO68.out BK5.out (by decide) 2 _⟩, ⟨Kd.R_set HO71.out BK5.out (by decide) 2 _⟩, ⟨Kd.R_far (p := ⟨gb5, 2, none⟩) HOC.out (fun _ hk => hk.2) _⟩, ⟨blk_put BK5.out 2 _ rfl⟩, ⟨blk_far BKG.out NBG5.out _⟩, ⟨zI HB.out (by have := GW5.out; have := HGW.out; omega)⟩, ⟨keep_far HKB.out GW5.out _⟩⟩
        ·have c1 : (kk != (nx : Int)) = true := bne_iff_ne.mpr ck
         have c2 : (kk == (nx : Int)) = false := beq_eq_false_iff_ne.mpr ck
         have CK := zA ck
         have HRR := zA (show readF ps (n + 1) at_ = none from by rw [RR.out, HRD.out, HED.out, readK, if_neg CK.out])
         clear ck
         go_wp2
         go_ret2
         exact (show Post74 (n + 1) w0 w gg (some ad) ps.length c (readF ps (n + 1) at_) _ _ from (by rw [HRR.out]; exact ⟨by first | rfl | (simp <;> rfl), HB.out⟩))
       ·have q3 : decide ((i : Int) < (p.f2.length : Int)) = false := decide_eq_false (by omega)
        have HRR := zA (show readF ps (n + 1) at_ = some (⟨p.f0, p.f1, kids.map er74⟩, nx) from by
         rw [RR.out, HRD.out, List.drop_eq_nil_of_le (by have := HI.out; omega), readK]
         show some (T.mk p.f0 p.f1 (kids.map er74 ++ []), nx) = _
         rw [List.append_nil])
        obtain ⟨A99, c99, eo⟩ := Kd.R_slice HOC.out
        subst eo
        go_wp2
        go_ret2
        exact (show Post74 (n + 1) w0 w gg (some ad) ps.length c (readF ps (n + 1) at_) _ _ from (by
         rw [HRR.out]
         exact ⟨⟨gb5, p.f0, p.f1, kids⟩, by first | rfl | (simp <;> rfl), er74_eq _, k74p_mkM GW5.out (by have := GW5.out; have := HGW.out; show w0.heap.size ≤ gb5; omega) BK5.out (Kd.R_types HO68.out BK5.out (by decide)) (Kd.R_types HO71.out BK5.out (by decide)) HOC.out, HB.out, HKB.out, BKG.out⟩))
     ·have e3 : decide ((0 : Int) < (p.f2.length : Int)) = true := decide_eq_true (by omega)
      have e3' : decide (0 < p.f2.length) = true := decide_eq_true (by omega)
      have K3 := zA k3
      clear k3
      by_cases k4 : p.f2.length = p.f0.length + 1
      ·have e4 : (((p.f2.length : Int)) != ((p.f0.length + 1 : Nat) : Int)) = false := bne_eq_false_iff_eq.mpr (by omega)
       have e4' : (p.f2.length != p.f0.length + 1) = false := bne_eq_false_iff_eq.mpr k4
       have e4'' : (p.f2.length == p.f0.length + 1) = true := beq_iff_eq.mpr k4
       have e4x : (((p.f2.length : Int)) != (p.f0.length : Int) + 1) = false := bne_eq_false_iff_eq.mpr (by omega)
       have K4 := zA k4
       clear k4
       have RR := zA (show readF ps (n + 1) at_ = (match readK (readF ps n) p.f2 (at_ + 1) with | none => none | some (l, e) => some (⟨p.f0, p.f1, l⟩, e)) from by rw [readF, HP.out]; exact if_pos ⟨K1.out, K2.out, .inr K4.out⟩)
       go_wp2
       have HW1 := zA hw1
       (try clear hw1); (try clear hw2); (try clear e1); (try clear e1'); (try clear e2); (try clear e2'); (try clear e2''); (try clear e3); (try clear e3'); (try clear e3''); (try clear e3d); (try clear e4); (try clear e4'); (try clear e4''); (try clear e4x); (try clear b1); (try clear b2); (try clear b4); (try clear b5); (try clear b6); (try clear b7)
       clear hx1 hfg hnb hnc hz0 hzz1 hz2
       have n0_ := zA (show (w5.setCell ⟨gg, 1, none⟩ (.int .i64 z1)).drew.heap[gg]? = some (.cells #[.slice (some ad) ps.length c, .int .i64 z1] 101 (0, 0)) from zN (blk_put BKG.out 1 _ rfl))
       have n1_ := zA (show (w5.setCell ⟨gg, 1, none⟩ (.int .i64 z1)).drew.heap[gb4]? = some (.cells #[.slice A0 p.f0.length c0, .slice A1 p.f1.length c1, .slice A2 p.f2.length c2] 97 (0, 0)) from zN (blk_far BK4.out NBG4.out.symm _))
       have n2_ := zA (zG (zI HB.out hgg (j := 1) (v := .int .i64 z1)))
       have n3_ := zA (keep_drew (KeepBut.set_ HKB.out 1 (.int .i64 z1)))
       clear BKG BK4 HB HKB
       have BKG := n0_
       have BK4 := n1_
       have HB := n2_
       have HKB := n3_
       clear n0_ n1_ n2_ n3_
       have HCL0 := zA (show slices_Clone_string_string.f p.f0 = some p.f0 from by unfold slices_Clone_string_string.f; rw [Option.bind_some, if_pos (by have := HLN.out; simp only [List.length_nil]; omega), List.nil_append])
       have HCL1 := zA (show slices_Clone_string_string.f p.f1 = some p.f1 from by unfold slices_Clone_string_string.f; rw [Option.bind_some, if_pos (by have := HLN.out; simp only [List.length_nil]; omega), List.nil_append])
       refine start_ (n := 9) (S := fun w' => w'.cell? ⟨gb4, 0, none⟩ = some (.slice A0 p.f0.length c0) ∧ w'.cell? ⟨gb4, 1, none⟩ = some (.slice A1 p.f1.length c1)) (ds := []) #[false, false, false, false, false, false, false, false, false] (by kernel_rfl) rfl rfl ⟨(zP BK4.out 0).trans rfl, (zP BK4.out 1).trans rfl⟩ (fun hHeld => ?_)
       refine with_tabW nodeI.tab7 nodeI.bits7 (fun HT_ HW_ => ?_)
       generalize (w5.setCell ⟨gg, 1, none⟩ (.int .i64 z1)).drew = w6 at BKG BK4 HB HKB hHeld ⊢
       refine pure_ (i := 0) (N := some 66) (v := ?_) (a' := ?_) #[true, false, false, false, false, false, false, false, false] rfl rfl (any_of HT_.out (by kernel_rfl)) (fun _ _ _ h => h) (Or.inl ⟨by rfl, ?_⟩) ?_ ?_; rotate_left
       ·intro w'
        go_simp
        with_reducible rfl
       rotate_left
       ·simp only [Act.put, zC, zD, zE, i64_w, i32_w]
        rfl
       refine take_ (i := 1) (N := some 67) (v := ?_) (a' := ?_) #[true, true, false, false, false, false, false, false, false] rfl rfl (take_ofW HT_.out HW_.out (by kernel_rfl)) (fun _ _ _ h => h) (Or.inl ⟨by rfl, ?_⟩) hHeld ?_ ?_; rotate_left
       ·rintro w' ⟨s0, s1⟩
        go_simp
        with_reducible rfl
       rotate_left
       ·simp only [Act.put, zC, zD, zE, i64_w, i32_w]
        rfl
       refine pure_ (i := 3) (N := some 69) (v := ?_) (a' := ?_) #[true, true, false, true, false, false, false, false, false] rfl rfl (any_of HT_.out (by kernel_rfl)) (fun _ _ _ h => h) (Or.inl ⟨by rfl, ?_⟩) ?_ ?_; rotate_left
       ·intro w'
        go_simp
        with_reducible rfl
       rotate_left
       ·simp only [Act.put, zC, zD, zE, i64_w, i32_w]
        rfl
       refine take_ (i := 4) (N := some 70) (v := ?_) (a' := ?_) #[true, true, false, true, true, false, false, false, false] rfl rfl (take_ofW HT_.out HW_.out (by kernel_rfl)) (fun _ _ _ h => h) (Or.inl ⟨by rfl, ?_⟩) hHeld ?_ ?_; rotate_left
       ·rintro w' ⟨s0, s1⟩
        go_simp
        with_reducible rfl
       rotate_left
       ·simp only [Act.put, zC, zD, zE, i64_w, i32_w]
        rfl
       refine one_ (i := 2) (N := some 68) #[true, true, true, true, true, false, false, false, false] rfl rfl (one_of HT_.out (by kernel_rfl)) (by decide) (fun K hK => ?_)
       refine goes_ Try.func65 (by kernel_rfl) rfl #[.slice A0 p.f0.length c0] (by rfl) rfl rfl (by (try simp only [zAA, zAB, zAC]); first | done | rfl | (simp only [zZ, zY]; rfl)) ?_
       with_reducible refine (slices_Clone_string_string.calls _ _ p.f0 p.f0 _ ?side1 ?side2 HCL0.out).mono ?_
       (case side1 => exact Kd.C_below HR0.out HB.out); (case side2 => exact HL0.out)
       rintro e w7 ⟨v68, rfl, ho, hb⟩
       refine ⟨_, rfl, ?_⟩
       have n0_ := zA (Kd.R_lower (Kd.R_mono (Kd.R_bound ho) (fun k hk => Nat.le_trans HKB.out.1 hk.2.1) : Kd.R Kd.string 9 w7 w6.heap.size (fun k => w.heap.size ≤ k) v68 p.f0) (zAE HB.out))
       have n1_ := zA (blk_below BKG.out hb)
       have n2_ := zA (blk_below BK4.out hb)
       have n3_ := zA (zAD HB.out hb)
       have n4_ := zA (HKB.out.trans (KeepBut.of_below hb gg none) (.inl rfl))
       clear BKG BK4 HB HKB ho hb
       have HO68 := n0_
       have BKG := n1_
       have BK4 := n2_
       have HB := n3_
       have HKB := n4_
       clear n0_ n1_ n2_ n3_ n4_
       refine hK.out _ _ ⟨(zP BK4.out 0).trans rfl, (zP BK4.out 1).trans rfl⟩ (fun hHeld => ?_)
       clear hK K
       refine norm_ (a' := ?_) ?_ ?_; rotate_left
       ·show Act.put _ (some 68) _ = _
        simp only [Act.put, zC, zD, zE, i64_w, i32_w]; rfl
       refine one_ (i := 5) (N := some 71) #[true, true, true, true, true, true, false, false, false] rfl rfl (one_of HT_.out (by kernel_rfl)) (by decide) (fun K hK => ?_)
       refine goes_ Try.func65 (by kernel_rfl) rfl #[.slice A1 p.f1.length c1] (by rfl) rfl rfl (by (try simp only [zAA, zAB, zAC]); first | done | rfl | (simp only [zZ, zY]; rfl)) ?_
       with_reducible refine (slices_Clone_string_string.calls _ _ p.f1 p.f1 _ ?side1 ?side2 HCL1.out).mono ?_
       (case side1 => exact Kd.C_below HR1.out HB.out); (case side2 => exact HL1.out)
       rintro e w8 ⟨v71, rfl, ho, hb⟩
       refine ⟨_, rfl, ?_⟩
       have n0_ := zA (Kd.R_lower (Kd.R_mono (Kd.R_bound ho) (fun k hk => Nat.le_trans HKB.out.1 hk.2.1) : Kd.R Kd.string 9 w8 w7.heap.size (fun k => w.heap.size ≤ k) v71 p.f1) (zAE HB.out))
       have n1_ := zA (blk_below BKG.out hb)
       have n2_ := zA (blk_below BK4.out hb)
       have n3_ := zA (zAD HB.out hb)
       have n4_ := zA (HKB.out.trans (KeepBut.of_below hb gg none) (.inl rfl))
       have n5_ := zA (Kd.R_below HO68.out hb)
       clear BKG BK4 HB HKB ho hb HO68
       have HO71 := n0_
       have BKG := n1_
       have BK4 := n2_
       have HB := n3_
       have HKB := n4_
       have HO68 := n5_
       clear n0_ n1_ n2_ n3_ n4_ n5_
       obtain ⟨A68, c68, eo⟩ := Kd.R_slice HO68.out
       subst eo
       obtain ⟨A71, c71, eo⟩ := Kd.R_slice HO71.out
       subst eo
       refine hK.out _ _ ⟨(zP BK4.out 0).trans rfl, (zP BK4.out 1).trans rfl⟩ (fun hHeld => ?_)
       clear hK K
       refine norm_ (a' := ?_) ?_ ?_; rotate_left
       ·show Act.put _ (some 71) _ = _
        simp only [Act.put, zC, zD, zE, i64_w, i32_w]; rfl
       refine pure_ (i := 6) (N := some 72) (v := ?_) (a' := ?_) #[true, true, true, true, true, true, true, false, false] rfl rfl (any_of HT_.out (by kernel_rfl)) (fun _ _ _ h => h) (Or.inl ⟨by rfl, ?_⟩) ?_ ?_; rotate_left
       ·intro w'
        go_simp
        with_reducible rfl
       rotate_left
       ·simp only [Act.put, zC, zD, zE, i64_w, i32_w]
        rfl
       refine one_ (i := 7) (N := some 73) #[true, true, true, true, true, true, true, true, false] rfl rfl (one_of HT_.out (by kernel_rfl)) (by decide) (fun K hK => ?_)
       refine box_step ?hg (N := 73) ?hd (cs := #[.slice A68 p.f0.length c68, .slice A71 p.f1.length c71, .slice none 0 0]) (t := 74) ?hr ?_; (case hd => rfl); (case hg => rfl); (case hr => first | (go_simp; done) | (go_simp; rfl))
       intro gb5 hg w9 hbox hb
       have n1_ := zA (blk_below BKG.out hb)
       have n2_ := zA (blk_below BK4.out hb)
       have n3_ := zA (zAD HB.out hb)
       have n4_ := zA (HKB.out.trans (KeepBut.of_below hb gg none) (.inl rfl))
       have n5_ := zA (Kd.R_below HO68.out hb)
       have n6_ := zA (Kd.R_below HO71.out hb)
       have GW5 := zA (by rw [hg]; exact HKB.out.1 : w.heap.size ≤ gb5)
       have NBG5 := zA (by rw [hg]; exact zK (blk_lt BKG.out) : gg ≠ gb5)
       clear BKG BK4 HB HKB hb HO68 HO71 hg
       have BKG := n1_
       have BK4 := n2_
       have HB := n3_
       have HKB := n4_
       have HO68 := n5_
       have HO71 := n6_
       have BK5 := zA hbox
       clear n1_ n2_ n3_ n4_ n5_ n6_ hbox
       refine hK.out _ _ ⟨(zP BK4.out 0).trans rfl, (zP BK4.out 1).trans rfl⟩ (fun hHeld => ?_)
       clear hK K
       refine norm_ (a' := ?_) ?_ ?_; rotate_left
       ·show Act.put _ (some 73) _ = _
        simp only [Act.put, zC, zD, zE, i64_w, i32_w]; rfl
       refine pure_ (i := 8) (N := some 5) (v := ?_) (a' := ?_) #[true, true, true, true, true, true, true, true, true] rfl rfl (any_of HT_.out (by kernel_rfl)) (fun _ _ _ h => h) (Or.inl ⟨by rfl, ?_⟩) ?_ ?_; rotate_left
       ·intro w'
        go_simp
        with_reducible rfl
       rotate_left
       ·simp only [Act.put, zC, zD, zE, i64_w, i32_w]
        rfl
       refine done_ (done_of HT_.out (by kernel_rfl)) ?_
       clear hHeld HT_ HW_
       have hz2 : w9.cell? ⟨gb4, 2, none⟩ = some (.slice A2 p.f2.length c2) := (zP BK4.out 2).trans rfl
       go_wp2
       go_loopg [77] (p.f2.length + 1) (fun kq v77 w' => ∃ (i nx : Nat) (kids : List S74) (vC : Value), v77 = .int .i64 (i : Int) ∧ Aside0 (kq + i = p.f2.length + 1) ∧ Aside0 (i ≤ p.f2.length) ∧ Aside0 (readK (readF ps n) p.f2 (at_ + 1) = (match readK (readF ps n) (p.f2.drop i) nx with | none => none | some (l, e) => some (kids.map er74 ++ l, e))) ∧ Aside0 (kids.length = i) ∧ Aside0 (at_ < nx ∧ nx ≤ ps.length) ∧ Aside0 (Kd.R Kd.string 9 w' w0.heap.size (fun k => w.heap.size ≤ k) (.slice A68 p.f0.length c68) p.f0) ∧ Aside0 (Kd.R Kd.string 9 w' w0.heap.size (fun k => w.heap.size ≤ k) (.slice A71 p.f1.length c71) p.f1) ∧ Aside0 (Kd.R k74p 60 w' w0.heap.size (fun k => w.heap.size ≤ k ∧ k ≠ gb5) vC kids) ∧ Aside0 (w'.heap[gb5]? = some (.cells #[.slice A68 p.f0.length c68, .slice A71 p.f1.length c71, vC] 74 (0, 0))) ∧ Aside0 (w'.heap[gg]? = some (.cells #[.slice (some ad) ps.length c, .int .i64 (nx : Int)] 101 (0, 0))) ∧ Aside0 (Below w0.heap.size w0 w') ∧ Aside0 (KeepBut w w' gg none))
       case atStart => exact ⟨0, at_ + 1, [], .slice none 0 0, rfl, ⟨by omega⟩, ⟨by omega⟩, ⟨by rw [List.drop_zero]; cases readK (readF ps n) p.f2 (at_ + 1) with | none => rfl | some q => rfl⟩, ⟨rfl⟩, ⟨by have := HH.out; omega⟩, HO68, HO71, ⟨Kd.R_nil _ _ _ _ _⟩, BK5, ⟨by rw [← HZ1.out]; exact BKG.out⟩, HB, HKB⟩
       case round =>
        clear HO68 HO71 BK5 BKG BK4 HB HKB hz2
        obtain ⟨i, nx, kids, vC, rfl, HK, HI, HRD, HKL, HNX, HO68, HO71, HOC, BK5, BKG, HB, HKB⟩ := hrel
        have hcg : wr.cell? ⟨gg, 1, none⟩ = some (.int .i64 (nx : Int)) := (zP BKG.out 1).trans rfl
        by_cases hi : i < p.f2.length
        ·obtain ⟨g1, rfl⟩ : ∃ g1, gk = g1 + 1 := ⟨gk - 1, by have := HK.out; omega⟩
         have q1 : ((i : Int) < (p.f2.length : Int)) = True := eq_true (by omega)
         have q2 : (i < p.f2.length) = True := eq_true hi
         have q3 : decide ((i : Int) < (p.f2.length : Int)) = true := decide_eq_true (by omega)
         obtain ⟨adk, ek, hk0⟩ := Kd.at_int HR2.out (i : Int) (by omega) (by omega)
         subst ek
         rw [Int.toNat_natCast] at hk0
         have hk1 := (HB.out.cell (zB w0 _ hk0)).trans hk0
         obtain ⟨kk, hkk⟩ : ∃ q, q = rd p.f2 (i : Int) := ⟨_, rfl⟩
         rw [← hkk] at hk0 hk1
         have ED : p.f2.drop i = kk :: p.f2.drop (i + 1) := by
          rw [List.drop_eq_getElem_cons hi, hkk]
          congr 1
          unfold rd
          rw [Int.toNat_natCast, List.getD_eq_getElem?_getD, List.getElem?_eq_getElem hi]; rfl
         have HED := zA ED
         clear ED hkk hk0
         by_cases ck : kk = (nx : Int)
         ·have c1 : (kk != (nx : Int)) = false := bne_eq_false_iff_eq.mpr ck
          have c2 : (kk == (nx : Int)) = true := beq_iff_eq.mpr ck
          have CK := zA ck
          have hI := ih nx wr HNX.out.2 (by have := HNX.out; have := HN.out; omega) HB.out BKG.out
          have HRK := zA (show readK (readF ps n) (p.f2.drop i) nx = (match readF ps n nx with | none => none | some (t, e) => (match readK (readF ps n) (p.f2.drop (i + 1)) e with | none => none | some (l, e') => some (t :: l, e'))) from by rw [HED.out, readK, if_pos CK.out]; rfl)
          cases hR : readF ps n nx with
          | none =>
           rw [hR] at hI HRK
           have HRR := zA (show readF ps (n + 1) at_ = none from by rw [RR.out, HRD.out, HRK.out])
           clear ck hR
           go_wp2_with (first | ((with_reducible refine gate_callee (f := 61) rfl ?_); refine goesL_ (some 89) rfl rfl Try.func61 (by kernel_rfl) rfl #[.pointer (some ⟨gg, 0, none⟩)] rfl (by (try simp only [zAA, zAB, zAC]); first | done | rfl) ?_; refine hI.mono ?_; rintro e w10 ⟨rfl, hb⟩; refine ⟨_, rfl, ?_⟩; clear HB hcg; have HB := zA hb; clear hb))
           go_ret2
           exact (show Post74 (n + 1) w0 w gg (some ad) ps.length c (readF ps (n + 1) at_) _ _ from (by rw [HRR.out]; exact ⟨by first | rfl | (simp <;> rfl), HB.out⟩))
          | some te =>
           obtain ⟨t, e1⟩ := te
           rw [hR] at hI HRK
           have HLE := zA (readF_le ps n nx t e1 hR)
           clear ck hR
           go_wp2_with (first | ((with_reducible refine gate_callee (f := 61) rfl ?_); refine goesL_ (some 89) rfl rfl Try.func61 (by kernel_rfl) rfl #[.pointer (some ⟨gg, 0, none⟩)] rfl (by (try simp only [zAA, zAB, zAC]); first | done | rfl) ?_; refine hI.mono ?_; rintro e w10 ⟨x, rfl, hx1, hM, hb, hkb, hkg⟩; refine ⟨_, rfl, ?_⟩; have HVL := zA (Kd.R_lt HOC.out); have HGL := zA (blk_lt BK5.out); have HWS := zA hkb.1; have HWR := zA HKB.out.1; have HXE := zA hx1; have HM := zA hM; have n0_ := zA hb; have n1_ := zA hkg; have n2_ := zA (hkb.blk BK5.out (NBG5.out.symm) (by simp)); have n3_ := zA (Kd.R_keep HO68.out hkb (fun k hk => by have := HGW.out; omega)); have n4_ := zA (Kd.R_keep HO71.out hkb (fun k hk => by have := HGW.out; omega)); have n5_ := zA (Kd.R_keep HOC.out hkb (fun k hk => by have := HGW.out; have := hk.1; omega)); have n6_ := zA (HKB.out.trans hkb (.inl rfl)); clear HB BKG BK5 HO68 HO71 HOC HKB hb hkb hkg hx1 hM hcg; have HB := n0_; have BKG := n1_; have BK5 := n2_; have HO68 := n3_; have HO71 := n4_; have HOC := n5_; have HKB := n6_; clear n0_ n1_ n2_ n3_ n4_ n5_ n6_; have hc9 : w10.cell? ⟨gb5, 2, none⟩ = some vC := (zP BK5.out 2).trans rfl) | ((with_reducible refine gate_builtin (b := .append) (xs := #[.tmp 98, .tmp 100]) rfl ?_); at_builtin; refine Kd.R_append k74p (w0 := w0) w0.heap.size rfl (.tmp 98) (.tmp 100) 72 60 (.pointer none) 8 rfl Try.underlying72 info60 rfl (by decide) (by omega) vC kids x [.pointer (some ⟨x.adr, 0, none⟩)] (fun k => w.heap.size ≤ k ∧ k ≠ gb5) (fun k => wr.heap.size ≤ k) rfl rfl ?aP ?aK ?aF ?aO ?aB ?aS ?aL ?_; (case aP => exact HM.out); (case aK => exact (fun k hk => ⟨⟨by have := HWR.out; omega, by have := HGL.out; omega⟩, fun e => by have := HVL.out k e.symm; omega⟩)); (case aF => exact (fun k hk => ⟨by have := HWS.out; have := HWR.out; omega, by have := HGL.out; have := HWS.out; omega⟩)); (case aO => exact HOC.out); (case aB => exact HB.out); (case aS => exact (zAE HB.out)); (case aL => have := HLN.out; have := HKL.out; omega); intro v101 w11 ho hb hg hat; obtain ⟨ys, hys⟩ : ∃ ys, ys = kids ++ [x] := ⟨_, rfl⟩; rw [← hys] at ho; have HYS := zA hys; clear hys; have n0_ := zA ho; have n1_ := zA hb; have n2_ := zA (blk_grown BK5.out hg (Kd.R_ne HOC.out BK5.out (by decide))); have n3_ := zA (blk_grown BKG.out hg (Kd.R_ne HOC.out BKG.out (by decide))); have n4_ := zA (Kd.R_mono (Kd.R_grown (R_apart HO68.out HOC.out (by decide)) hg (fun _ hk => hk.2)) (fun _ hk => hk.1) : Kd.R Kd.string 9 w11 w0.heap.size (fun k => w.heap.size ≤ k) (.slice A68 p.f0.length c68) p.f0); have n5_ := zA (Kd.R_mono (Kd.R_grown (R_apart HO71.out HOC.out (by decide)) hg (fun _ hk => hk.2)) (fun _ hk => hk.1) : Kd.R Kd.string 9 w11 w0.heap.size (fun k => w.heap.size ≤ k) (.slice A71 p.f1.length c71) p.f1); have n6_ := zA (HKB.out.trans (KeepBut.of_grown hg gg) (by cases hvo : vC.ownBlock with | none => exact .inl rfl | some b => exact .inr ⟨b, rfl, (HOC.out.1 b hvo).1⟩)); clear HB BKG BK5 HO68 HO71 HOC HKB hc9 ho hb hg hat; have HOC := n0_; have HB := n1_; have BK5 := n2_; have BKG := n3_; have HO68 := n4_; have HO71 := n5_; have HKB := n6_; clear n0_ n1_ n2_ n3_ n4_ n5_ n6_; have hc11 : w11.cell? ⟨gb5, 2, none⟩ = some vC := (zP BK5.out 2).trans rfl; have hf11 := zO BK5.out 2; obtain ⟨A97, c97, eo⟩ := Kd.R_slice HOC.out; subst eo))
           go_roundg g1
           case measure => omega
           case rel => exact ⟨i + 1, e1, ys, _, by rw [w64N i (by have := HLN.out; omega)], ⟨by have := HK.out; omega⟩, ⟨by omega⟩, ⟨by
             rw [HRD.out, HRK.out]
             cases readK (readF ps n) (p.f2.drop (i + 1)) e1 with
             | none => rfl
             | some q =>
              show some (kids.map er74 ++ (t :: q.1), q.2) = some (ys.map er74 ++ q.1, q.2)
              rw [HYS.out, List.map_append, List.append_assoc, ← HXE.out]; rfl⟩, ⟨by rw [HYS.out, List.length_append, HKL.out]; rfl⟩, ⟨by have := HNX.out; have := HLE.out; omega⟩,
            ⟨Kd.R_set HO68.out BK5.out (by decide) 2 _⟩, ⟨Kd.R_set HO71.out BK5.out (by decide) 2 _⟩, ⟨Kd.R_far (p := ⟨gb5, 2, none⟩) HOC.out (fun _ hk => hk.2) _⟩, ⟨blk_put BK5.out 2 _ rfl⟩, ⟨blk_far BKG.out NBG5.out _⟩, ⟨zI HB.out (by have := GW5.out; have := HGW.out; omega)⟩, ⟨keep_far HKB.out GW5.out _⟩⟩
         ·have c1 : (kk != (nx : Int)) = true := bne_iff_ne.mpr ck
          have c2 : (kk == (nx : Int)) = false := beq_eq_false_iff_ne.mpr ck
          have CK := zA ck
          have HRR := zA (show readF ps (n + 1) at_ = none from by rw [RR.out, HRD.out, HED.out, readK, if_neg CK.out])
          clear ck
          go_wp2
          go_ret2
          exact (show Post74 (n + 1) w0 w gg (some ad) ps.length c (readF ps (n + 1) at_) _ _ from (by rw [HRR.out]; exact ⟨by first | rfl | (simp <;> rfl), HB.out⟩))
        ·have q3 : decide ((i : Int) < (p.f2.length : Int)) = false := decide_eq_false (by omega)
         have HRR := zA (show readF ps (n + 1) at_ = some (⟨p.f0, p.f1, kids.map er74⟩, nx) from by
          rw [RR.out, HRD.out, List.drop_eq_nil_of_le (by have := HI.out; omega), readK]
          show some (T.mk p.f0 p.f1 (kids.map er74 ++ []), nx) = _
          rw [List.append_nil])
         obtain ⟨A99, c99, eo⟩ := Kd.R_slice HOC.out
         subst eo
         go_wp2
         go_ret2
         exact (show Post74 (n + 1) w0 w gg (some ad) ps.length c (readF ps (n + 1) at_) _ _ from (by
          rw [HRR.out]
          exact ⟨⟨gb5, p.f0, p.f1, kids⟩, by first | rfl | (simp <;> rfl), er74_eq _, k74p_mkM GW5.out (by have := GW5.out; have := HGW.out; show w0.heap.size ≤ gb5; omega) BK5.out (Kd.R_types HO68.out BK5.out (by decide)) (Kd.R_types HO71.out BK5.out (by decide)) HOC.out, HB.out, HKB.out, BKG.out⟩))
      ·have e4 : (((p.f2.length : Int)) != ((p.f0.length + 1 : Nat) : Int)) = true := bne_iff_ne.mpr (by omega)
       have e4' : (p.f2.length != p.f0.length + 1) = true := bne_iff_ne.mpr k4
       have e4'' : (p.f2.length == p.f0.length + 1) = false := beq_eq_false_iff_ne.mpr k4
       have e4x : (((p.f2.length : Int)) != (p.f0.length : Int) + 1) = true := bne_iff_ne.mpr (by omega)
       have K4 := zA k4
       clear k4
       have RR := zA (show readF ps (n + 1) at_ = none from by rw [readF, HP.out]; exact if_neg (fun q => q.2.2.elim K3.out K4.out))
       go_wp2
       go_ret2
       exact (show Post74 (n + 1) w0 w gg (some ad) ps.length c (readF ps (n + 1) at_) _ _ from (by rw [RR.out]; exact ⟨by first | rfl | (simp <;> rfl), zI HB.out hgg⟩))
    ·have e2 : (((p.f1.length : Int)) != (p.f0.length : Int)) = true := bne_iff_ne.mpr (by omega)
     have e2' : (p.f1.length != p.f0.length) = true := bne_iff_ne.mpr k2
     have e2'' : (p.f1.length == p.f0.length) = false := beq_eq_false_iff_ne.mpr k2
     have K2 := zA k2
     clear k2
     have RR := zA (show readF ps (n + 1) at_ = none from by rw [readF, HP.out]; exact if_neg (fun q => K2.out q.2.1))
     go_wp2
     go_ret2
     exact (show Post74 (n + 1) w0 w gg (some ad) ps.length c (readF ps (n + 1) at_) _ _ from (by rw [RR.out]; exact ⟨by first | rfl | (simp <;> rfl), zI HB.out hgg⟩))
   ·have e1 : decide ((4 : Int) < (p.f0.length : Int)) = true := decide_eq_true (by omega)
    have e1' : decide (4 < p.f0.length) = true := decide_eq_true (by omega)
    have K1 := zA k1
    clear k1
    have RR := zA (show readF ps (n + 1) at_ = none from by rw [readF, HP.out]; exact if_neg (fun q => K1.out q.1))
    go_wp2
    go_ret2
    exact (show Post74 (n + 1) w0 w gg (some ad) ps.length c (readF ps (n + 1) at_) _ _ from (by rw [RR.out]; exact ⟨by first | rfl | (simp <;> rfl), zI HB.out hgg⟩))
  ·have b1 : ((at_ : Int) == (ps.length : Int)) = true := beq_iff_eq.mpr (by omega)
   have b2 : (at_ == ps.length) = true := beq_iff_eq.mpr (by omega)
   have R := zA (show readF ps (n + 1) at_ = none by unfold readF; rw [List.getElem?_eq_none (by omega)])
   clear hb hk hC hG
   go_enter Try.func61, Try.ntmps61
   go_wp2
   repeat (go_quiet (fail); try go_wp2)
   go_ret2
   exact (show Post74 (n + 1) w0 w gg A ps.length c (readF ps (n + 1) at_) _ _ from (by rw [R.out]; exact ⟨by first | rfl | (simp <;> rfl), by repeat (first | exact HB.out | apply zH | apply zF | apply zG)⟩))
end Go.Proofs.Ytnplghcbdaiogaa.QY
end
section
namespace Go.Proofs.Ytnplghcbdaiogaa.PR
open Go.RowKit Go.Proofs.YtnplghcbdaiogaaW.PrintWords Go.Proofs.YtnplghcbdaiogaaW.PrintLast Go.Proofs.YtnplghcbdaiogaaW.PrintMore Go.Proofs.Ytnplghcbdaiogaa.PB Go.Proofs.Ytnplghcbdaiogaa.PW Go.Proofs.Ytnplghcbdaiogaa.QW Go.Proofs.Ytnplghcbdaiogaa.PA Go.Proofs.Ytnplghcbdaiogaa.QP Go.Proofs.Ytnplghcbdaiogaa.QO Go.Proofs.Ytnplghcbdaiogaa.QQ Go.Proofs.Ytnplghcbdaiogaa.QZ Go.Proofs.Ytnplghcbdaiogaa.QY
attribute [local go_sem] max2_int min2_int max_two min_two max_three min_three max_four min_four
set_option linter.unusedVariables false
set_option linter.unusedSimpArgs false
set_option maxHeartbeats 4000000
set_option maxRecDepth 100000
theorem pairsE (K V : List ByteArray) (hl : V.length = K.length) : Ev (fun k => impl_arePairs.f k K V) (pairsB K V) := by
 by_cases h : K.length ≤ 40
 ·exact ev_eq (pairsI K V (by omega) (by omega)) (pairs_two K V hl).symm
 ·unfold impl_arePairs.f
  refine ev_neg (by omega) (ev_eq (Ev.now false) ?_)
  exact (Bool.eq_false_iff.2 (fun q => h ((pairs_iff K V).1 q).1)).symm
def PostRt (w : World) (R : Option T) (e : Ending) (w' : World) : Prop := match R with
 | none => e = .returned (.tuple #[.pointer none, .bool false]) ∧ Below w.heap.size w w'
 | some t => ∃ x : S74, e = .returned (.tuple #[.pointer (some ⟨x.adr, 0, none⟩), .bool true]) ∧ er74 x = t ∧ k74p.M w' w.heap.size (fun _ => True) x [.pointer (some ⟨x.adr, 0, none⟩)] ∧ Below w.heap.size w w'
theorem rootI0 (ps : List S97) (hG : Sml ps) (A : Option Addr) (c : Nat) (hc : ps.length ≤ c) (w : World) (hC : Kd.C k97 w A ps.length ps) :
  Calls Try.prog 27 #[.agg #[.slice A ps.length c]] w fun e w' => PostRt w (treeG ps ps.length) e w' := by
 have HG := zA hG
 have HC := zA hC
 have HLC := zA hc
 have HB := zA (Below.refl w.heap.size w)
 have hu30 := Try.underlying30
 have hu101 := Try.underlying101
 clear hG hC hc
 cases hR : readF ps ps.length 0 with
 | none =>
  have HR := zA hR
  have RR := zA (show treeG ps ps.length = none by unfold treeG; rw [hR])
  clear hR
  go_enter Try.func27, Try.ntmps27
  go_wp2_with (first | ((with_reducible refine gate_dst (N := 1) rfl ?_); refine box_event ?hg (N := 1) ?hd (cs := #[.slice A ps.length c]) (t := 30) ?hr ?_; (case hd => rfl); (case hg => rfl); (case hr => first | (go_simp; done) | (go_simp; rfl)); intro gb1 hg w3 hbox hb; have n0_ := zA (zAD HB.out hb); have BK1 := zA hbox; have GW1 := zA (by rw [hg]; exact Nat.le_refl _ : w.heap.size ≤ gb1); clear HB; have HB := n0_; clear n0_ hb hbox hg; have hx1 : w3.cell? ⟨gb1, 0, none⟩ = some (.slice A ps.length c) := (zP BK1.out 0).trans rfl) | ((with_reducible refine gate_dst (N := 12) rfl ?_); refine box_event ?hg (N := 12) ?hd (cs := #[.slice A ps.length c, .int .i64 0]) (t := 101) ?hr ?_; (case hd => rfl); (case hg => rfl); (case hr => first | (go_simp; done) | (go_simp; rfl)); intro gg hg w4 hbox hb; have n0_ := zA (zAD HB.out hb); have n1_ := zA (blk_below BK1.out hb); have BKG := zA hbox; have GWG := zA (by rw [hg]; exact zAE HB.out : w.heap.size ≤ gg); have NB1G := zA (by rw [hg]; exact zK (blk_lt BK1.out) : gb1 ≠ gg); clear HB BK1; have HB := n0_; have BK1 := n1_; clear n0_ n1_ hb hbox hg hx1; have hI := nodeI ps HG.out A c HLC.out w HC.out gg GWG.out ps.length 0 w4 (Nat.zero_le _) (by omega) HB.out BKG.out; rw [HR.out] at hI) | ((with_reducible refine gate_callee (f := 61) rfl ?_); refine goesL_ (some 15) rfl rfl Try.func61 (by kernel_rfl) rfl #[.pointer (some ⟨gg, 0, none⟩)] rfl (by (try simp only [zAA, zAB, zAC]); first | done | rfl) ?_; refine hI.mono ?_; clear hI;  rintro e w5 ⟨rfl, hb⟩; refine ⟨_, rfl, ?_⟩; clear HB BK1 BKG; have HB := zA hb; clear hb))
  repeat (go_quiet (fail); try go_wp2)
  go_ret2
  exact (show PostRt w (treeG ps ps.length) _ _ from (by rw [RR.out]; exact ⟨by first | rfl | (simp <;> rfl), by repeat (first | exact HB.out | apply zF | apply zG)⟩))
 | some tn =>
  obtain ⟨t, nx⟩ := tn
  have HR := zA hR
  by_cases hn : nx = ps.length
  ·have b1 : ((nx : Int) != (ps.length : Int)) = false := bne_eq_false_iff_eq.mpr (by omega)
   have b2 : ((nx : Int) == (ps.length : Int)) = true := beq_iff_eq.mpr (by omega)
   have b3 : (nx != ps.length) = false := bne_eq_false_iff_eq.mpr hn
   have b4 : (nx == ps.length) = true := beq_iff_eq.mpr hn
   have HN := zA hn
   obtain ⟨hok, hh⟩ := readF_ok ps _ _ _ _ hR
   have hcnt := readF_cnt ps _ _ _ _ hR
   have HOK := zA hok
   have HH := zA (show hT t ≤ 1000000000000000000 from by have := HG.out.1; omega)
   have HKV := zA (kv_len t hok)
   obtain ⟨K, hK⟩ : ∃ q, q = keysT t := ⟨_, rfl⟩
   obtain ⟨V, hV⟩ : ∃ q, q = valsT t := ⟨_, rfl⟩
   have HNK := zA (show K.length < 8796093022208 from by have := HG.out.1; rw [hK]; omega)
   have HNV := zA (show V.length = K.length from by rw [hK, hV]; exact HKV.out.symm)
   have HEK := zA hK
   have HEV := zA hV
   obtain ⟨d1, hd1⟩ : ∃ q, q = (dpI t).1 := ⟨_, rfl⟩
   obtain ⟨d2, hd2⟩ : ∃ q, q = (dpI t).2 := ⟨_, rfl⟩
   have HD1 := zA hd1
   have HD2 := zA hd2
   clear hn hR hok hh hcnt hK hV hd1 hd2
   cases d2 with
   | false =>
    have RR := zA (show treeG ps ps.length = none by
     unfold treeG; rw [HR.out]; refine if_neg (fun q => ?_)
     have := q.2
     unfold goodB at this
     have h2 := HD2.out
     unfold dpI at h2
     cases hl : levT t with
     | none => rw [hl, Bool.and_eq_true, Bool.and_eq_true] at this; exact absurd this.2.1 (by simp)
     | some d =>
      rw [hl] at h2
      dsimp only at h2
      rw [← h2, Bool.and_false, Bool.and_false] at this; cases this)
    go_enter Try.func27, Try.ntmps27
    go_wp2_with (first | ((with_reducible refine gate_dst (N := 1) rfl ?_); refine box_event ?hg (N := 1) ?hd (cs := #[.slice A ps.length c]) (t := 30) ?hr ?_; (case hd => rfl); (case hg => rfl); (case hr => first | (go_simp; done) | (go_simp; rfl)); intro gb1 hg w3 hbox hb; have n0_ := zA (zAD HB.out hb); have BK1 := zA hbox; have GW1 := zA (by rw [hg]; exact Nat.le_refl _ : w.heap.size ≤ gb1); clear HB; have HB := n0_; clear n0_ hb hbox hg; have hx1 : w3.cell? ⟨gb1, 0, none⟩ = some (.slice A ps.length c) := (zP BK1.out 0).trans rfl) | ((with_reducible refine gate_dst (N := 12) rfl ?_); refine box_event ?hg (N := 12) ?hd (cs := #[.slice A ps.length c, .int .i64 0]) (t := 101) ?hr ?_; (case hd => rfl); (case hg => rfl); (case hr => first | (go_simp; done) | (go_simp; rfl)); intro gg hg w4 hbox hb; have n0_ := zA (zAD HB.out hb); have n1_ := zA (blk_below BK1.out hb); have BKG := zA hbox; have GWG := zA (by rw [hg]; exact zAE HB.out : w.heap.size ≤ gg); have NB1G := zA (by rw [hg]; exact zK (blk_lt BK1.out) : gb1 ≠ gg); clear HB BK1; have HB := n0_; have BK1 := n1_; clear n0_ n1_ hb hbox hg hx1; have hI := nodeI ps HG.out A c HLC.out w HC.out gg GWG.out ps.length 0 w4 (Nat.zero_le _) (by omega) HB.out BKG.out; rw [HR.out] at hI) | ((with_reducible refine gate_callee (f := 61) rfl ?_); refine goesL_ (some 15) rfl rfl Try.func61 (by kernel_rfl) rfl #[.pointer (some ⟨gg, 0, none⟩)] rfl (by (try simp only [zAA, zAB, zAC]); first | done | rfl) ?_; refine hI.mono ?_; clear hI;  rintro e w5 ⟨x, rfl, hx, hM, hb, hkb, hkg⟩; refine ⟨_, rfl, ?_⟩; have n1_ := zA (hkb.blk BK1.out NB1G.out (by simp)); have HXE := zA hx; have HM := zA (k74p.M_mono (fun _ _ => trivial) hM : k74p.M w5 w.heap.size (fun _ => True) x [.pointer (some ⟨x.adr, 0, none⟩)]); clear HB BK1 BKG hx hM hkb; have HB := zA hb; have BKG := zA hkg; have BK1 := n1_; clear n1_ hb hkg; have hy1 : w5.cell? ⟨gb1, 0, none⟩ = some (.slice A ps.length c) := (zP BK1.out 0).trans rfl; have hy2 : w5.cell? ⟨gg, 1, none⟩ = some (.int .i64 (nx : Int)) := (zP BKG.out 1).trans rfl))
    go_quiet (fail)
    obtain ⟨k, hk⟩ := Ev.rounds (depthI x (by rw [HXE.out]; exact HH.out) (by rw [HXE.out]; exact HOK.out)); rw [HXE.out, show dpI t = (d1, false) from by rw [HD1.out, HD2.out]] at hk; have HD := zA hk; clear hk
    go_wp2_with (first | ((with_reducible refine gate_callee (f := 62) rfl ?_); (try (refine gate_guard (by rfl) ?_; dsimp only)); refine goesL_ (some 32) rfl rfl Try.func62 (by kernel_rfl) rfl #[.pointer (some ⟨x.adr, 0, none⟩)] rfl (by (try simp only [zAA, zAB, zAC]); first | done | rfl) ?_; refine (impl_node_depth.calls k x d1 false _ (by repeat (first | exact k74p.K_of_M HM.out | apply k74p_drewN | apply k74p_drew)) HD.out).mono ?_; rintro e w8 ⟨rfl, m8, hw⟩; rw [hw]; clear hw w8; refine ⟨_, rfl, ?_⟩))
    go_ret2
    exact (show PostRt w (treeG ps ps.length) _ _ from (by rw [RR.out]; exact ⟨by first | rfl | (simp <;> rfl), by repeat (first | exact HB.out | apply zF | apply zG)⟩))
   | true =>
    have hsome : ∃ d, levT t = some d ∧ (t.f2.isEmpty || decide (0 < t.f0.length)) = true := by
     have h2 := HD2.out
     unfold dpI at h2
     cases hl : levT t with
     | none => rw [hl] at h2; cases h2
     | some d => rw [hl] at h2; exact ⟨d, rfl, h2.symm⟩
    have HSO := zA hsome
    clear hsome
    obtain ⟨r, hr⟩ : ∃ q, q = pairsB K V := ⟨_, rfl⟩
    have HRB := zA hr
    clear hr
    cases r with
    | false =>
     have RR := zA (show treeG ps ps.length = none by
      unfold treeG; rw [HR.out]; refine if_neg (fun q => ?_)
      have := q.2
      unfold goodB at this
      rw [← HEK.out, ← HEV.out, ← HRB.out, Bool.false_and] at this; cases this)
     go_enter Try.func27, Try.ntmps27
     go_wp2_with (first | ((with_reducible refine gate_dst (N := 1) rfl ?_); refine box_event ?hg (N := 1) ?hd (cs := #[.slice A ps.length c]) (t := 30) ?hr ?_; (case hd => rfl); (case hg => rfl); (case hr => first | (go_simp; done) | (go_simp; rfl)); intro gb1 hg w3 hbox hb; have n0_ := zA (zAD HB.out hb); have BK1 := zA hbox; have GW1 := zA (by rw [hg]; exact Nat.le_refl _ : w.heap.size ≤ gb1); clear HB; have HB := n0_; clear n0_ hb hbox hg; have hx1 : w3.cell? ⟨gb1, 0, none⟩ = some (.slice A ps.length c) := (zP BK1.out 0).trans rfl) | ((with_reducible refine gate_dst (N := 12) rfl ?_); refine box_event ?hg (N := 12) ?hd (cs := #[.slice A ps.length c, .int .i64 0]) (t := 101) ?hr ?_; (case hd => rfl); (case hg => rfl); (case hr => first | (go_simp; done) | (go_simp; rfl)); intro gg hg w4 hbox hb; have n0_ := zA (zAD HB.out hb); have n1_ := zA (blk_below BK1.out hb); have BKG := zA hbox; have GWG := zA (by rw [hg]; exact zAE HB.out : w.heap.size ≤ gg); have NB1G := zA (by rw [hg]; exact zK (blk_lt BK1.out) : gb1 ≠ gg); clear HB BK1; have HB := n0_; have BK1 := n1_; clear n0_ n1_ hb hbox hg hx1; have hI := nodeI ps HG.out A c HLC.out w HC.out gg GWG.out ps.length 0 w4 (Nat.zero_le _) (by omega) HB.out BKG.out; rw [HR.out] at hI) | ((with_reducible refine gate_callee (f := 61) rfl ?_); refine goesL_ (some 15) rfl rfl Try.func61 (by kernel_rfl) rfl #[.pointer (some ⟨gg, 0, none⟩)] rfl (by (try simp only [zAA, zAB, zAC]); first | done | rfl) ?_; refine hI.mono ?_; clear hI;  rintro e w5 ⟨x, rfl, hx, hM, hb, hkb, hkg⟩; refine ⟨_, rfl, ?_⟩; have n1_ := zA (hkb.blk BK1.out NB1G.out (by simp)); have HXE := zA hx; have HM := zA (k74p.M_mono (fun _ _ => trivial) hM : k74p.M w5 w.heap.size (fun _ => True) x [.pointer (some ⟨x.adr, 0, none⟩)]); clear HB BK1 BKG hx hM hkb; have HB := zA hb; have BKG := zA hkg; have BK1 := n1_; clear n1_ hb hkg; have hy1 : w5.cell? ⟨gb1, 0, none⟩ = some (.slice A ps.length c) := (zP BK1.out 0).trans rfl; have hy2 : w5.cell? ⟨gg, 1, none⟩ = some (.int .i64 (nx : Int)) := (zP BKG.out 1).trans rfl))
     go_quiet (fail)
     obtain ⟨k, hk⟩ := Ev.rounds (depthI x (by rw [HXE.out]; exact HH.out) (by rw [HXE.out]; exact HOK.out)); rw [HXE.out, show dpI t = (d1, true) from by rw [HD1.out, HD2.out]] at hk; have HD := zA hk; clear hk
     obtain ⟨ka, hka⟩ := Ev.rounds (allI x (by rw [HXE.out]; exact HOK.out) [] [] (by rw [HXE.out, ← HEK.out]; have := HNK.out; simp only [List.length_nil]; omega) (by rw [HXE.out, ← HEV.out, HNV.out]; have := HNK.out; simp only [List.length_nil]; omega)); rw [HXE.out, ← HEK.out, ← HEV.out, List.nil_append, List.nil_append] at hka; have HALL := zA hka; clear hka; obtain ⟨kp, hkp⟩ := Ev.rounds (pairsE K V HNV.out); rw [← HRB.out] at hkp; have HPR := zA hkp; clear hkp
     go_wp2_with (first | ((with_reducible refine gate_callee (f := 62) rfl ?_); (try (refine gate_guard (by rfl) ?_; dsimp only)); refine goesL_ (some 32) rfl rfl Try.func62 (by kernel_rfl) rfl #[.pointer (some ⟨x.adr, 0, none⟩)] rfl (by (try simp only [zAA, zAB, zAC]); first | done | rfl) ?_; refine (impl_node_depth.calls k x d1 true _ (by repeat (first | exact k74p.K_of_M HM.out | apply k74p_drewN | apply k74p_drew)) HD.out).mono ?_; rintro e w8 ⟨rfl, m8, hw⟩; rw [hw]; clear hw w8; refine ⟨_, rfl, ?_⟩) | ((with_reducible refine gate_callee (f := 64) rfl ?_); (try (refine gate_guard (by rfl) ?_; dsimp only)); refine goesL_ (some 39) rfl rfl Try.func64 (by kernel_rfl) rfl #[.pointer (some ⟨x.adr, 0, none⟩), .slice none 0 0, .slice none 0 0] rfl (by (try simp only [zAA, zAB, zAC]); first | done | rfl) ?_; refine (impl_node_all.calls ka x (fun _ => False) (.slice none 0 0) [] (fun _ => False) (.slice none 0 0) [] K V _ _ (Below.refl _ _) (by repeat (first | exact k74p.K_of_M HM.out | apply k74p_drewN | apply k74p_drew)) (Kd.R_nil _ _ _ _ _) (fun _ h => h.elim) (Kd.R_nil _ _ _ _ _) (fun _ h => h.elim) HALL.out).mono ?_; rintro e w9 ⟨vK, vV, rfl, hRK, hRV, hb, hkp⟩; clear hkp; refine ⟨_, rfl, ?_⟩; obtain ⟨AK, cK, eo, hlK, hCK⟩ := Kd.R_reads hRK; subst eo; obtain ⟨AV, cV, eo, hlV, hCV⟩ := Kd.R_reads hRV; subst eo; have n0_ := zA (zAD (by repeat (first | exact HB.out | apply zF | apply zG)) hb : Below w.heap.size w w9); have n2_ := zA (k74p.M_below (by repeat (first | exact HM.out | refine k74p.M_below ?_ (below_drew1 (Below.refl _ _)) | refine k74p.M_below ?_ (pw_below_drewN (Below.refl _ _) _))) hb : k74p.M w9 w.heap.size (fun _ => True) x [.pointer (some ⟨x.adr, 0, none⟩)]); have HCK := zA hCK; have HCV := zA hCV; have HLK := zA hlK; have HLV := zA hlV; clear HB HM hb hRK hRV hCK hCV hlK hlV; have HB := n0_; have HM := n2_; clear n0_ n2_) | ((with_reducible refine gate_callee (f := 63) rfl ?_); (try (refine gate_guard (by rfl) ?_; dsimp only)); refine goesL_ (some 42) rfl rfl Try.func63 (by kernel_rfl) rfl #[.slice AK K.length cK, .slice AV V.length cV] rfl (by (try simp only [zAA, zAB, zAC]); first | done | rfl) ?_; refine (impl_arePairs.calls kp AK cK K AV cV V _ _ HCK.out HLK.out HCV.out HLV.out HPR.out).mono ?_; rintro e w8 ⟨rfl, m8, hw⟩; rw [hw]; clear hw w8; refine ⟨_, rfl, ?_⟩))
     go_ret2
     exact (show PostRt w (treeG ps ps.length) _ _ from (by rw [RR.out]; exact ⟨by first | rfl | (simp <;> rfl), by repeat (first | exact HB.out | apply zF | apply zG)⟩))
    | true =>
     have RR := zA (show treeG ps ps.length = some t by
      unfold treeG; rw [HR.out]; refine if_pos ⟨HN.out, ?_⟩
      obtain ⟨d, hd, hz⟩ := HSO.out
      unfold goodB
      rw [← HEK.out, ← HEV.out, ← HRB.out, hd, hz]; rfl)
     go_enter Try.func27, Try.ntmps27
     go_wp2_with (first | ((with_reducible refine gate_dst (N := 1) rfl ?_); refine box_event ?hg (N := 1) ?hd (cs := #[.slice A ps.length c]) (t := 30) ?hr ?_; (case hd => rfl); (case hg => rfl); (case hr => first | (go_simp; done) | (go_simp; rfl)); intro gb1 hg w3 hbox hb; have n0_ := zA (zAD HB.out hb); have BK1 := zA hbox; have GW1 := zA (by rw [hg]; exact Nat.le_refl _ : w.heap.size ≤ gb1); clear HB; have HB := n0_; clear n0_ hb hbox hg; have hx1 : w3.cell? ⟨gb1, 0, none⟩ = some (.slice A ps.length c) := (zP BK1.out 0).trans rfl) | ((with_reducible refine gate_dst (N := 12) rfl ?_); refine box_event ?hg (N := 12) ?hd (cs := #[.slice A ps.length c, .int .i64 0]) (t := 101) ?hr ?_; (case hd => rfl); (case hg => rfl); (case hr => first | (go_simp; done) | (go_simp; rfl)); intro gg hg w4 hbox hb; have n0_ := zA (zAD HB.out hb); have n1_ := zA (blk_below BK1.out hb); have BKG := zA hbox; have GWG := zA (by rw [hg]; exact zAE HB.out : w.heap.size ≤ gg); have NB1G := zA (by rw [hg]; exact zK (blk_lt BK1.out) : gb1 ≠ gg); clear HB BK1; have HB := n0_; have BK1 := n1_; clear n0_ n1_ hb hbox hg hx1; have hI := nodeI ps HG.out A c HLC.out w HC.out gg GWG.out ps.length 0 w4 (Nat.zero_le _) (by omega) HB.out BKG.out; rw [HR.out] at hI) | ((with_reducible refine gate_callee (f := 61) rfl ?_); refine goesL_ (some 15) rfl rfl Try.func61 (by kernel_rfl) rfl #[.pointer (some ⟨gg, 0, none⟩)] rfl (by (try simp only [zAA, zAB, zAC]); first | done | rfl) ?_; refine hI.mono ?_; clear hI;  rintro e w5 ⟨x, rfl, hx, hM, hb, hkb, hkg⟩; refine ⟨_, rfl, ?_⟩; have n1_ := zA (hkb.blk BK1.out NB1G.out (by simp)); have HXE := zA hx; have HM := zA (k74p.M_mono (fun _ _ => trivial) hM : k74p.M w5 w.heap.size (fun _ => True) x [.pointer (some ⟨x.adr, 0, none⟩)]); clear HB BK1 BKG hx hM hkb; have HB := zA hb; have BKG := zA hkg; have BK1 := n1_; clear n1_ hb hkg; have hy1 : w5.cell? ⟨gb1, 0, none⟩ = some (.slice A ps.length c) := (zP BK1.out 0).trans rfl; have hy2 : w5.cell? ⟨gg, 1, none⟩ = some (.int .i64 (nx : Int)) := (zP BKG.out 1).trans rfl))
     go_quiet (fail)
     obtain ⟨k, hk⟩ := Ev.rounds (depthI x (by rw [HXE.out]; exact HH.out) (by rw [HXE.out]; exact HOK.out)); rw [HXE.out, show dpI t = (d1, true) from by rw [HD1.out, HD2.out]] at hk; have HD := zA hk; clear hk
     obtain ⟨ka, hka⟩ := Ev.rounds (allI x (by rw [HXE.out]; exact HOK.out) [] [] (by rw [HXE.out, ← HEK.out]; have := HNK.out; simp only [List.length_nil]; omega) (by rw [HXE.out, ← HEV.out, HNV.out]; have := HNK.out; simp only [List.length_nil]; omega)); rw [HXE.out, ← HEK.out, ← HEV.out, List.nil_append, List.nil_append] at hka; have HALL := zA hka; clear hka; obtain ⟨kp, hkp⟩ := Ev.rounds (pairsE K V HNV.out); rw [← HRB.out] at hkp; have HPR := zA hkp; clear hkp
     go_wp2_with (first | ((with_reducible refine gate_callee (f := 62) rfl ?_); (try (refine gate_guard (by rfl) ?_; dsimp only)); refine goesL_ (some 32) rfl rfl Try.func62 (by kernel_rfl) rfl #[.pointer (some ⟨x.adr, 0, none⟩)] rfl (by (try simp only [zAA, zAB, zAC]); first | done | rfl) ?_; refine (impl_node_depth.calls k x d1 true _ (by repeat (first | exact k74p.K_of_M HM.out | apply k74p_drewN | apply k74p_drew)) HD.out).mono ?_; rintro e w8 ⟨rfl, m8, hw⟩; rw [hw]; clear hw w8; refine ⟨_, rfl, ?_⟩) | ((with_reducible refine gate_callee (f := 64) rfl ?_); (try (refine gate_guard (by rfl) ?_; dsimp only)); refine goesL_ (some 39) rfl rfl Try.func64 (by kernel_rfl) rfl #[.pointer (some ⟨x.adr, 0, none⟩), .slice none 0 0, .slice none 0 0] rfl (by (try simp only [zAA, zAB, zAC]); first | done | rfl) ?_; refine (impl_node_all.calls ka x (fun _ => False) (.slice none 0 0) [] (fun _ => False) (.slice none 0 0) [] K V _ _ (Below.refl _ _) (by repeat (first | exact k74p.K_of_M HM.out | apply k74p_drewN | apply k74p_drew)) (Kd.R_nil _ _ _ _ _) (fun _ h => h.elim) (Kd.R_nil _ _ _ _ _) (fun _ h => h.elim) HALL.out).mono ?_; rintro e w9 ⟨vK, vV, rfl, hRK, hRV, hb, hkp⟩; clear hkp; refine ⟨_, rfl, ?_⟩; obtain ⟨AK, cK, eo, hlK, hCK⟩ := Kd.R_reads hRK; subst eo; obtain ⟨AV, cV, eo, hlV, hCV⟩ := Kd.R_reads hRV; subst eo; have n0_ := zA (zAD (by repeat (first | exact HB.out | apply zF | apply zG)) hb : Below w.heap.size w w9); have n2_ := zA (k74p.M_below (by repeat (first | exact HM.out | refine k74p.M_below ?_ (below_drew1 (Below.refl _ _)) | refine k74p.M_below ?_ (pw_below_drewN (Below.refl _ _) _))) hb : k74p.M w9 w.heap.size (fun _ => True) x [.pointer (some ⟨x.adr, 0, none⟩)]); have HCK := zA hCK; have HCV := zA hCV; have HLK := zA hlK; have HLV := zA hlV; clear HB HM hb hRK hRV hCK hCV hlK hlV; have HB := n0_; have HM := n2_; clear n0_ n2_) | ((with_reducible refine gate_callee (f := 63) rfl ?_); (try (refine gate_guard (by rfl) ?_; dsimp only)); refine goesL_ (some 42) rfl rfl Try.func63 (by kernel_rfl) rfl #[.slice AK K.length cK, .slice AV V.length cV] rfl (by (try simp only [zAA, zAB, zAC]); first | done | rfl) ?_; refine (impl_arePairs.calls kp AK cK K AV cV V _ _ HCK.out HLK.out HCV.out HLV.out HPR.out).mono ?_; rintro e w8 ⟨rfl, m8, hw⟩; rw [hw]; clear hw w8; refine ⟨_, rfl, ?_⟩))
     go_ret2
     exact (show PostRt w (treeG ps ps.length) _ _ from (by rw [RR.out]; exact ⟨x, by first | rfl | (simp <;> rfl), HXE.out, (by repeat (first | exact HM.out | refine k74p.M_below ?_ (below_drew1 (Below.refl _ _)) | refine k74p.M_below ?_ (pw_below_drewN (Below.refl _ _) _))), by repeat (first | exact HB.out | apply zF | apply zG)⟩))
  ·have b1 : ((nx : Int) != (ps.length : Int)) = true := bne_iff_ne.mpr (by omega)
   have b2 : ((nx : Int) == (ps.length : Int)) = false := beq_eq_false_iff_ne.mpr (by omega)
   have b3 : (nx != ps.length) = true := bne_iff_ne.mpr hn
   have b4 : (nx == ps.length) = false := beq_eq_false_iff_ne.mpr hn
   have RR := zA (show treeG ps ps.length = none by unfold treeG; rw [hR]; exact if_neg (fun q => hn q.1))
   clear hR hn
   go_enter Try.func27, Try.ntmps27
   go_wp2_with (first | ((with_reducible refine gate_dst (N := 1) rfl ?_); refine box_event ?hg (N := 1) ?hd (cs := #[.slice A ps.length c]) (t := 30) ?hr ?_; (case hd => rfl); (case hg => rfl); (case hr => first | (go_simp; done) | (go_simp; rfl)); intro gb1 hg w3 hbox hb; have n0_ := zA (zAD HB.out hb); have BK1 := zA hbox; have GW1 := zA (by rw [hg]; exact Nat.le_refl _ : w.heap.size ≤ gb1); clear HB; have HB := n0_; clear n0_ hb hbox hg; have hx1 : w3.cell? ⟨gb1, 0, none⟩ = some (.slice A ps.length c) := (zP BK1.out 0).trans rfl) | ((with_reducible refine gate_dst (N := 12) rfl ?_); refine box_event ?hg (N := 12) ?hd (cs := #[.slice A ps.length c, .int .i64 0]) (t := 101) ?hr ?_; (case hd => rfl); (case hg => rfl); (case hr => first | (go_simp; done) | (go_simp; rfl)); intro gg hg w4 hbox hb; have n0_ := zA (zAD HB.out hb); have n1_ := zA (blk_below BK1.out hb); have BKG := zA hbox; have GWG := zA (by rw [hg]; exact zAE HB.out : w.heap.size ≤ gg); have NB1G := zA (by rw [hg]; exact zK (blk_lt BK1.out) : gb1 ≠ gg); clear HB BK1; have HB := n0_; have BK1 := n1_; clear n0_ n1_ hb hbox hg hx1; have hI := nodeI ps HG.out A c HLC.out w HC.out gg GWG.out ps.length 0 w4 (Nat.zero_le _) (by omega) HB.out BKG.out; rw [HR.out] at hI) | ((with_reducible refine gate_callee (f := 61) rfl ?_); refine goesL_ (some 15) rfl rfl Try.func61 (by kernel_rfl) rfl #[.pointer (some ⟨gg, 0, none⟩)] rfl (by (try simp only [zAA, zAB, zAC]); first | done | rfl) ?_; refine hI.mono ?_; clear hI;  rintro e w5 ⟨x, rfl, hx, hM, hb, hkb, hkg⟩; refine ⟨_, rfl, ?_⟩; have n1_ := zA (hkb.blk BK1.out NB1G.out (by simp)); have HXE := zA hx; have HM := zA (k74p.M_mono (fun _ _ => trivial) hM : k74p.M w5 w.heap.size (fun _ => True) x [.pointer (some ⟨x.adr, 0, none⟩)]); clear HB BK1 BKG hx hM hkb; have HB := zA hb; have BKG := zA hkg; have BK1 := n1_; clear n1_ hb hkg; have hy1 : w5.cell? ⟨gb1, 0, none⟩ = some (.slice A ps.length c) := (zP BK1.out 0).trans rfl; have hy2 : w5.cell? ⟨gg, 1, none⟩ = some (.int .i64 (nx : Int)) := (zP BKG.out 1).trans rfl))
   repeat (go_quiet (fail); try go_wp2)
   go_ret2
   exact (show PostRt w (treeG ps ps.length) _ _ from (by rw [RR.out]; exact ⟨by first | rfl | (simp <;> rfl), by repeat (first | exact HB.out | apply zF | apply zG)⟩))
theorem treeG_some {ps : List S97} {t : T} {n : Nat} (h : treeG ps n = some t) : okT t ∧ smT t := by
 unfold treeG at h
 cases hR : readF ps n 0 with
 | none => rw [hR] at h; cases h
 | some tn =>
  obtain ⟨t', nx⟩ := tn
  rw [hR] at h
  dsimp only at h
  by_cases c : nx = ps.length ∧ goodB t' = true
  ·rw [if_pos c] at h
   obtain rfl := Option.some.inj h
   have hg := c.2
   unfold goodB at hg
   rw [Bool.and_eq_true] at hg
   exact ⟨(readF_ok ps _ _ _ _ hR).1, pairs_sm _ hg.1⟩
  ·rw [if_neg c] at h; cases h
theorem rootI (ps : List S97) (hG : Sml ps) (A : Option Addr) (c : Nat) (hc : ps.length ≤ c) (w : World) (hC : Kd.C k97 w A ps.length ps) :
  Calls Try.prog 9 #[.agg #[.slice A ps.length c]] w fun e w' => e = .returned (.tuple #[.string (rootF ps).1, .bool (rootF ps).2]) ∧ Below w.heap.size w w' := by
 have HG := zA hG
 have HC := zA hC
 have HLC := zA hc
 have HB := zA (Below.refl w.heap.size w)
 have hu30 := Try.underlying30
 clear hG hC hc
 cases hR : treeG ps 10 with
 | none =>
  have HR := zA (show treeG ps ps.length = none by rw [treeG_len, hR])
  have RR := zA (show rootF ps = (⟨#[]⟩, false) by unfold rootF; rw [hR])
  clear hR
  go_enter Try.func9, Try.ntmps9
  go_wp2_with (first | ((with_reducible refine gate_dst (N := 1) rfl ?_); refine box_event ?hg (N := 1) ?hd (cs := #[.slice A ps.length c]) (t := 30) ?hr ?_; (case hd => rfl); (case hg => rfl); (case hr => first | (go_simp; done) | (go_simp; rfl)); intro gb1 hg w3 hbox hb; have n0_ := zA (zAD HB.out hb); have BK1 := zA hbox; clear HB; have HB := n0_; clear n0_ hb hbox hg; have hx1 : w3.cell? ⟨gb1, 0, none⟩ = some (.slice A ps.length c) := (zP BK1.out 0).trans rfl; have hI := rootI0 ps HG.out A c HLC.out w3 (Kd.C_below HC.out HB.out); rw [HR.out] at hI) | ((with_reducible refine gate_callee (f := 27) rfl ?_); refine goesL_ (some 8) rfl rfl Try.func27 (by kernel_rfl) rfl #[.agg #[.slice A ps.length c]] rfl (by (try simp only [zAA, zAB, zAC]); first | done | rfl) ?_; refine hI.mono ?_; clear hI;  rintro e w4 ⟨rfl, hb⟩; refine ⟨_, rfl, ?_⟩; have n0_ := zA (zAD HB.out hb); clear HB BK1 hb hx1; have HB := n0_; clear n0_))
  go_ret2
  exact ⟨by rw [RR.out]; first | rfl | (simp <;> rfl), HB.out⟩
 | some t =>
  have HR := zA (show treeG ps ps.length = some t by rw [treeG_len, hR])
  have RR := zA (show rootF ps = (digT t, true) by unfold rootF; rw [hR])
  obtain ⟨hok, hsm⟩ := treeG_some hR
  have HOK := zA hok
  have HSM := zA hsm
  clear hR hok hsm
  go_enter Try.func9, Try.ntmps9
  go_wp2_with (first | ((with_reducible refine gate_dst (N := 1) rfl ?_); refine box_event ?hg (N := 1) ?hd (cs := #[.slice A ps.length c]) (t := 30) ?hr ?_; (case hd => rfl); (case hg => rfl); (case hr => first | (go_simp; done) | (go_simp; rfl)); intro gb1 hg w3 hbox hb; have n0_ := zA (zAD HB.out hb); have BK1 := zA hbox; clear HB; have HB := n0_; clear n0_ hb hbox hg; have hx1 : w3.cell? ⟨gb1, 0, none⟩ = some (.slice A ps.length c) := (zP BK1.out 0).trans rfl; have hI := rootI0 ps HG.out A c HLC.out w3 (Kd.C_below HC.out HB.out); rw [HR.out] at hI) | ((with_reducible refine gate_callee (f := 27) rfl ?_); refine goesL_ (some 8) rfl rfl Try.func27 (by kernel_rfl) rfl #[.agg #[.slice A ps.length c]] rfl (by (try simp only [zAA, zAB, zAC]); first | done | rfl) ?_; refine hI.mono ?_; clear hI;  rintro e w4 ⟨x, rfl, hx, hM, hb⟩; refine ⟨_, rfl, ?_⟩; have n0_ := zA (zAD HB.out hb); have HXE := zA hx; have HM := zA hM; clear HB BK1 hb hx1 hx hM; have HB := n0_; clear n0_; obtain ⟨hs1, hs2⟩ := shownI x (by rw [HXE.out]; exact HOK.out) (by rw [HXE.out]; exact HSM.out); rw [HXE.out] at hs2; obtain ⟨C, hCe⟩ : ∃ q, q = x.f2.map (fun y => digT (er74 y)) := ⟨_, rfl⟩; rw [← hCe] at hs1 hs2; clear hCe; obtain ⟨k3, hk3⟩ := Ev.rounds hs1; obtain ⟨k4, hk4⟩ := Ev.rounds hs2; have HK3 := zA hk3; have HK4 := zA hk4; clear hs1 hs2 hk3 hk4) | ((with_reducible refine gate_callee (f := 28) rfl ?_); refine goesL_ (some 14) rfl rfl Try.func28 (by kernel_rfl) rfl #[.pointer (some ⟨x.adr, 0, none⟩)] rfl (by (try simp only [zAA, zAB, zAC]); first | done | rfl) ?_; refine (impl_node_shown.calls k3 x x.f0 x.f1 C 0 _ (k74p.K_of_M HM.out) HK3.out).mono ?_; rintro e w5 ⟨v0, v1, v2, rfl, hR0, hR1, hR2, hb⟩; refine ⟨_, rfl, ?_⟩; obtain ⟨A0, c0, eo, hl0, hC0⟩ := Kd.R_reads hR0; subst eo; obtain ⟨A1, c1, eo, hl1, hC1⟩ := Kd.R_reads hR1; subst eo; obtain ⟨A2, c2, eo, hl2, hC2⟩ := Kd.R_reads hR2; subst eo; have n0_ := zA (zAD HB.out hb); have HC0 := zA hC0; have HC1 := zA hC1; have HC2 := zA hC2; have HL0 := zA hl0; have HL1 := zA hl1; have HL2 := zA hl2; clear HB hb hR0 hR1 hR2 hC0 hC1 hC2 hl0 hl1 hl2; have HB := n0_; clear n0_) | ((with_reducible refine gate_callee (f := 29) rfl ?_); refine goesL_ (some 15) rfl rfl Try.func29 (by kernel_rfl) rfl #[.agg #[.slice A0 x.f0.length c0, .slice A1 x.f1.length c1, .slice A2 C.length c2, .int .i64 0]] rfl (by (try simp only [zAA, zAB, zAC]); first | done | rfl) ?_; refine (impl_Shown_digest.calls k4 A0 c0 x.f0 A1 c1 x.f1 A2 c2 C 0 (digT t) _ HC0.out HL0.out HC1.out HL1.out HC2.out HL2.out HK4.out).mono ?_; rintro e w6 ⟨rfl, hb⟩; refine ⟨_, rfl, ?_⟩; have n0_ := zA (zAD HB.out hb); clear HB hb; have HB := n0_; clear n0_))
  go_ret2
  exact ⟨by rw [RR.out]; first | rfl | (simp <;> rfl), HB.out⟩
end Go.Proofs.Ytnplghcbdaiogaa.PR
end
section
namespace Go.Proofs.Ytnplghcbdaiogaa.PA
open Go.RowKit Go.Proofs.YtnplghcbdaiogaaW.PrintWords Go.Proofs.YtnplghcbdaiogaaW.PrintLast Go.Proofs.YtnplghcbdaiogaaW.PrintMore
attribute [local go_sem] max2_int min2_int max_two min_two max_three min_three max_four min_four
set_option linter.unusedVariables false
set_option linter.unusedSimpArgs false
set_option maxHeartbeats 60000000
set_option maxRecDepth 100000
def impl_RootOf.f (l0_0 : List (S97)) : Option (ByteArray × Bool) := if Go.Proofs.Ytnplghcbdaiogaa.QZ.smlB l0_0 = true then some (Go.Proofs.Ytnplghcbdaiogaa.QZ.rootF l0_0) else none
theorem impl_RootOf.calls (A0_0 : Option Addr) (c0_0 : Nat) (l0_0 : List (S97)) (r1 : ByteArray) (r2 : Bool) (w : World) (hr0_0 : Kd.C k97 w A0_0 l0_0.length l0_0) (hc0_0 : l0_0.length ≤ c0_0) (h : impl_RootOf.f l0_0 = some (r1, r2)) :
  Calls Try.prog 9 #[.agg #[.slice A0_0 l0_0.length c0_0]] w fun e w' => e = .returned (.tuple #[.string r1, .bool r2]) ∧ Below w.heap.size w w' := by
 unfold impl_RootOf.f at h
 by_cases hc : Go.Proofs.Ytnplghcbdaiogaa.QZ.smlB l0_0 = true
 ·rw [if_pos hc] at h
  have hr := yM h; have := Go.Proofs.Ytnplghcbdaiogaa.PR.rootI l0_0 ((Go.Proofs.Ytnplghcbdaiogaa.QZ.smlB_iff l0_0).1 hc) A0_0 c0_0 hc0_0 w hr0_0; rw [hr] at this; exact this
 ·rw [if_neg hc] at h
  cases h
def laws_FnExactRootOf.j0 : Nat → Bool → List (S87) → List (S97) → Option (Bool)
 | 0, _, _, _ => none
 | k + 1, x34, x10, x11 => if x34 = true then (some false) else ((laws_toTree.f k x10).bind fun t12 => ((laws_eqTree.f k x11 t12).bind fun t13 => (if t13 = true then (some true) else (some false))))
def laws_FnExactRootOf.f (k : Nat) (l0_0 : List (S87)) : Option (Bool) := (laws_szTree.f k l0_0 1048576).bind fun t10 => (if t10 < 0 then (some true) else ((laws_toTree.f k l0_0).bind fun t11 => ((spec_RootOf.f t11).bind fun bt12 => ((laws_toTree.f k l0_0).bind fun t13 => ((impl_RootOf.f t13).bind fun bt14 => (if bt14.1.toList = bt12.1.toList then (laws_FnExactRootOf.j0 k (bt14.2 != bt12.2) l0_0 t13) else (laws_FnExactRootOf.j0 k true l0_0 t13)))))))
theorem laws_FnExactRootOf.calls (k : Nat) (A0_0 : Option Addr) (c0_0 : Nat) (l0_0 : List (S87)) (r : Bool) (w : World) (hr0_0 : Kd.C k87 w A0_0 l0_0.length l0_0) (hc0_0 : l0_0.length ≤ c0_0) (h : laws_FnExactRootOf.f k l0_0 = some r) (hr_ : Aside0 (r = true)) :
  Calls Try.prog 3 #[.agg #[.slice A0_0 l0_0.length c0_0]] w fun e w' => e = .returned (.bool r) ∧ Below w.heap.size w w' := by
 have hu24 := Try.underlying24; have hu30 := Try.underlying30; have HR0_0 := zA hr0_0; have HC0_0 := zA hc0_0; clear hr0_0 hc0_0; have HB := zA (Below.refl w.heap.size w); have H : ((laws_szTree.f k l0_0 1048576).bind fun t35 => (if t35 < 0 then (some true) else ((laws_toTree.f k l0_0).bind fun t36 => ((spec_RootOf.f t36).bind fun bt37 => ((laws_toTree.f k l0_0).bind fun t38 => ((impl_RootOf.f t38).bind fun bt39 => (if bt39.1.toList = bt37.1.toList then (laws_FnExactRootOf.j0 k (bt39.2 != bt37.2) l0_0 t38) else (laws_FnExactRootOf.j0 k true l0_0 t38)))))))) = some r := h; clear h; replace H := zAF H; obtain ⟨t35, A20, H⟩ := H; replace H : (if t35 < 0 then (some true) else ((laws_toTree.f k l0_0).bind fun t36 => ((spec_RootOf.f t36).bind fun bt37 => ((laws_toTree.f k l0_0).bind fun t38 => ((impl_RootOf.f t38).bind fun bt39 => (if bt39.1.toList = bt37.1.toList then (laws_FnExactRootOf.j0 k (bt39.2 != bt37.2) l0_0 t38) else (laws_FnExactRootOf.j0 k true l0_0 t38))))))) = some r := H; have A2 := zA A20; clear A20
 by_cases c3 : t35 < 0
 ·rw [if_pos c3] at H
  have c3b0 : decide (t35 < 0) = true := zX c3; clear c3; obtain rfl := yM H; go_enter Try.func3, Try.ntmps3; go_wp2_with (first | ((with_reducible refine gate_dst (N := 1) rfl ?_); refine box_event ?hg (N := 1) ?hd (cs := #[.slice A0_0 l0_0.length c0_0]) (t := 24) ?hr ?_; (case hd => rfl); (case hg => rfl); (case hr => first | (go_simp; done) | (go_simp; rfl)); intro gb40 hg w4 hbox hb; have n0_ := zA (zAD (by (with_reducible repeat first | exact HB.out | apply zH | apply zF | apply zG) <;> exact HB.out) hb); have n1_ := zA (hbox); have n2_ := zA ((by rw [hg]; exact (zAE (by (with_reducible repeat first | exact HB.out | apply zH | apply zF | apply zG) <;> exact HB.out)) : w.heap.size ≤ gb40)); have n3_ := zA ((by rw [hg]; exact (zAE (by (with_reducible repeat first | exact HB.out | apply zH | apply zF | apply zG) <;> exact HB.out)) : w.heap.size ≤ gb40)); clear HB; have HB := n0_; have BK40 := n1_; have GW40 := n2_; have GE40 := n3_; clear n0_ n1_ n2_ n3_; clear hb hbox hg; have hcz5_0 := yL BK40.out 0 (.slice A0_0 l0_0.length c0_0) rfl; have hfz5_0 := zO BK40.out 0) | ((with_reducible refine yB (f := 6) rfl ?_); refine goesL_ (some 11) rfl rfl Try.func6 (by kernel_rfl) rfl #[.agg #[.slice A0_0 l0_0.length c0_0], .int .i64 1048576] rfl (by (try simp only [zAA, zAB, zAC]); first | done | rfl | (simp only [zZ, zY]; rfl)) ?_; (with_reducible refine (laws_szTree.calls k _ _ l0_0 1048576 t35 _ ?side1 ?side2 A2.out).mono ?_); (case side1 => repeat (first | exact (yN HR0_0.out HB.out) | (with_reducible first | refine zT ?_ _ | refine zU ?_ _ | refine zV ?_))); (case side2 => exact HC0_0.out); rintro e w6 ⟨rfl, hb⟩; refine ⟨_, rfl, ?_⟩; have n0_ := zA (yE (g := gb40) (o := .cells #[.slice A0_0 l0_0.length c0_0] 24 (0, 0)) (by (with_reducible repeat (first | refine zL ?_ _ | refine zN ?_ | refine zM ?_ _)); exact BK40.out) hb); have n1_ := zA (zAD (by repeat (first | (with_reducible first | exact HB.out | apply zH | apply zF | apply zG | refine zI ?_ GE40.out) | exact HB.out)) hb); clear BK40; clear HB; have BK40 := n0_; have HB := n1_; clear n0_ n1_; (try clear hb))); go_ret; exact ⟨by first | rfl | (simp <;> rfl) | (simp [*] <;> rfl), by repeat (first | (with_reducible first | exact HB.out | apply zH | apply zF | apply zG | refine zI ?_ GE40.out) | exact HB.out)⟩
 ·rw [if_neg c3] at H
  have c3b0 : decide (t35 < 0) = false := decide_eq_false c3; clear c3; replace H := zAF H; obtain ⟨t36, A70, H⟩ := H; replace H : ((spec_RootOf.f t36).bind fun bt37 => ((laws_toTree.f k l0_0).bind fun t38 => ((impl_RootOf.f t38).bind fun bt39 => (if bt39.1.toList = bt37.1.toList then (laws_FnExactRootOf.j0 k (bt39.2 != bt37.2) l0_0 t38) else (laws_FnExactRootOf.j0 k true l0_0 t38))))) = some r := H; have A7 := zA A70; clear A70; replace H := zAF H; obtain ⟨⟨t37, t41⟩, A80, H⟩ := H; replace H : ((laws_toTree.f k l0_0).bind fun t38 => ((impl_RootOf.f t38).bind fun bt39 => (if bt39.1.toList = t37.toList then (laws_FnExactRootOf.j0 k (bt39.2 != t41) l0_0 t38) else (laws_FnExactRootOf.j0 k true l0_0 t38)))) = some r := H; have A8 := zA A80; clear A80; replace H := zAF H; obtain ⟨t38, A90, H⟩ := H; replace H : ((impl_RootOf.f t38).bind fun bt39 => (if bt39.1.toList = t37.toList then (laws_FnExactRootOf.j0 k (bt39.2 != t41) l0_0 t38) else (laws_FnExactRootOf.j0 k true l0_0 t38))) = some r := H; have A9 := zA A90; clear A90; replace H := zAF H; obtain ⟨⟨t39, t42⟩, A43, H⟩ := H; replace H : (if t39.toList = t37.toList then (laws_FnExactRootOf.j0 k (t42 != t41) l0_0 t38) else (laws_FnExactRootOf.j0 k true l0_0 t38)) = some r := H; have A10 := zA A43; clear A43; have HC11 := zA H; clear H; go_enter Try.func3, Try.ntmps3; go_upto_region 8 with (first | ((with_reducible refine gate_dst (N := 1) rfl ?_); refine box_event ?hg (N := 1) ?hd (cs := #[.slice A0_0 l0_0.length c0_0]) (t := 24) ?hr ?_; (case hd => rfl); (case hg => rfl); (case hr => first | (go_simp; done) | (go_simp; rfl)); intro gb40 hg w12 hbox hb; have n0_ := zA (zAD (by (with_reducible repeat first | exact HB.out | apply zH | apply zF | apply zG) <;> exact HB.out) hb); have n1_ := zA (hbox); have n2_ := zA ((by rw [hg]; exact (zAE (by (with_reducible repeat first | exact HB.out | apply zH | apply zF | apply zG) <;> exact HB.out)) : w.heap.size ≤ gb40)); have n3_ := zA ((by rw [hg]; exact (zAE (by (with_reducible repeat first | exact HB.out | apply zH | apply zF | apply zG) <;> exact HB.out)) : w.heap.size ≤ gb40)); clear HB; have HB := n0_; have BK40 := n1_; have GW40 := n2_; have GE40 := n3_; clear n0_ n1_ n2_ n3_; clear hb hbox hg; have hcz13_0 := yL BK40.out 0 (.slice A0_0 l0_0.length c0_0) rfl; have hfz13_0 := zO BK40.out 0) | ((with_reducible refine yB (f := 6) rfl ?_); refine goesL_ (some 11) rfl rfl Try.func6 (by kernel_rfl) rfl #[.agg #[.slice A0_0 l0_0.length c0_0], .int .i64 1048576] rfl (by (try simp only [zAA, zAB, zAC]); first | done | rfl | (simp only [zZ, zY]; rfl)) ?_; (with_reducible refine (laws_szTree.calls k _ _ l0_0 1048576 t35 _ ?side1 ?side2 A2.out).mono ?_); (case side1 => repeat (first | exact (yN HR0_0.out HB.out) | (with_reducible first | refine zT ?_ _ | refine zU ?_ _ | refine zV ?_))); (case side2 => exact HC0_0.out); rintro e w14 ⟨rfl, hb⟩; refine ⟨_, rfl, ?_⟩; have n0_ := zA (yE (g := gb40) (o := .cells #[.slice A0_0 l0_0.length c0_0] 24 (0, 0)) (by (with_reducible repeat (first | refine zL ?_ _ | refine zN ?_ | refine zM ?_ _)); exact BK40.out) hb); have n1_ := zA (zAD (by repeat (first | (with_reducible first | exact HB.out | apply zH | apply zF | apply zG | refine zI ?_ GE40.out) | exact HB.out)) hb); clear BK40; clear HB; have BK40 := n0_; have HB := n1_; clear n0_ n1_; (try clear hb); have hcz15_0 := yL BK40.out 0 (.slice A0_0 l0_0.length c0_0) rfl; have hfz15_0 := zO BK40.out 0) | ((with_reducible refine yB (f := 8) rfl ?_); refine goesL_ (some 16) rfl rfl Try.func8 (by kernel_rfl) rfl #[.agg #[.slice A0_0 l0_0.length c0_0]] rfl (by (try simp only [zAA, zAB, zAC]); first | done | rfl | (simp only [zZ, zY]; rfl)) ?_; (with_reducible refine (laws_toTree.calls k _ _ l0_0 t36 _ ?side1 ?side2 A7.out).mono ?_); (case side1 => repeat (first | exact (yN HR0_0.out HB.out) | (with_reducible first | refine zT ?_ _ | refine zU ?_ _ | refine zV ?_))); (case side2 => exact HC0_0.out); rintro e w16 ⟨v44, rfl, ho0, hb⟩; refine ⟨_, rfl, ?_⟩; have n0_ := zA (Kd.S_lower ho0 (zAE (by repeat (first | (with_reducible first | exact HB.out | apply zH | apply zF | apply zG | refine zI ?_ GE40.out) | exact HB.out)))); have n1_ := zA (yE (g := gb40) (o := .cells #[.slice A0_0 l0_0.length c0_0] 24 (0, 0)) (by (with_reducible repeat (first | refine zL ?_ _ | refine zN ?_ | refine zM ?_ _)); exact BK40.out) hb); have n2_ := zA (zAD (by repeat (first | (with_reducible first | exact HB.out | apply zH | apply zF | apply zG | refine zI ?_ GE40.out) | exact HB.out)) hb); clear BK40; clear HB; have HO45 := n0_; have BK40 := n1_; have HB := n2_; clear n0_ n1_ n2_; (try clear hb); (try clear ho0); obtain ⟨Ao17, co17, eo17⟩ := Kd.S_slice HO45.out; subst eo17) | ((with_reducible refine yB (f := 7) rfl ?_); refine goesL_ (some 17) rfl rfl Try.func7 (by kernel_rfl) rfl #[.agg #[.slice Ao17 t36.length co17]] rfl (by (try simp only [zAA, zAB, zAC]); first | done | rfl | (simp only [zZ, zY]; rfl)) ?_; (with_reducible refine (spec_RootOf.calls _ _ t36 t37 t41 _ ?side1 ?side2 A8.out).mono ?_); (case side1 => repeat (first | exact (Kd.S_reads' HO45.out).2.2 | (with_reducible first | refine zT ?_ _ | refine zU ?_ _ | refine zV ?_))); (case side2 => exact (Kd.S_reads' HO45.out).2.1); rintro e w18 ⟨rfl, hb⟩; refine ⟨_, rfl, ?_⟩; have n0_ := zA (Kd.S_below (by (with_reducible repeat (first | apply Kd.S_alloc | apply Kd.S_drewN | apply Kd.S_drew)); exact HO45.out) hb); have n1_ := zA (yE (g := gb40) (o := .cells #[.slice A0_0 l0_0.length c0_0] 24 (0, 0)) (by (with_reducible repeat (first | refine zL ?_ _ | refine zN ?_ | refine zM ?_ _)); exact BK40.out) hb); have n2_ := zA (zAD (by repeat (first | (with_reducible first | exact HB.out | apply zH | apply zF | apply zG | refine zI ?_ GE40.out) | exact HB.out)) hb); clear HO45; clear BK40; clear HB; have HO45 := n0_; have BK40 := n1_; have HB := n2_; clear n0_ n1_ n2_; (try clear hb); have hcz19_0 := yL BK40.out 0 (.slice A0_0 l0_0.length c0_0) rfl; have hfz19_0 := zO BK40.out 0) | ((with_reducible refine yB (f := 8) rfl ?_); refine goesL_ (some 21) rfl rfl Try.func8 (by kernel_rfl) rfl #[.agg #[.slice A0_0 l0_0.length c0_0]] rfl (by (try simp only [zAA, zAB, zAC]); first | done | rfl | (simp only [zZ, zY]; rfl)) ?_; (with_reducible refine (laws_toTree.calls k _ _ l0_0 t38 _ ?side1 ?side2 A9.out).mono ?_); (case side1 => repeat (first | exact (yN HR0_0.out HB.out) | (with_reducible first | refine zT ?_ _ | refine zU ?_ _ | refine zV ?_))); (case side2 => exact HC0_0.out); rintro e w20 ⟨v46, rfl, ho0, hb⟩; refine ⟨_, rfl, ?_⟩; have n0_ := zA (Kd.S_elder' (by (with_reducible repeat (first | apply Kd.S_alloc | apply Kd.S_drewN | apply Kd.S_drew)); exact HO45.out) (Kd.S_base ho0) hb); have n1_ := zA (Kd.S_lower (Kd.S_new' ho0 (Kd.S_lt (by (with_reducible repeat (first | apply Kd.S_alloc | apply Kd.S_drewN | apply Kd.S_drew)); exact HO45.out))) (zAE (by repeat (first | (with_reducible first | exact HB.out | apply zH | apply zF | apply zG | refine zI ?_ GE40.out) | exact HB.out)))); have n2_ := zA (yE (g := gb40) (o := .cells #[.slice A0_0 l0_0.length c0_0] 24 (0, 0)) (by (with_reducible repeat (first | refine zL ?_ _ | refine zN ?_ | refine zM ?_ _)); exact BK40.out) hb); have n3_ := zA (zAD (by repeat (first | (with_reducible first | exact HB.out | apply zH | apply zF | apply zG | refine zI ?_ GE40.out) | exact HB.out)) hb); clear HO45; clear BK40; clear HB; have HO45 := n0_; have HO47 := n1_; have BK40 := n2_; have HB := n3_; clear n0_ n1_ n2_ n3_; (try clear hb); (try clear ho0)) | ((with_reducible refine gate_dst (N := 6) rfl ?_); refine box_event ?hg (N := 6) ?hd (cs := #[.slice none 0 0]) (t := 30) ?hr ?_; (case hd => rfl); (case hg => rfl); (case hr => first | (go_simp; done) | (go_simp; rfl)); intro gb48 hg w21 hbox hb; have n0_ := zA (Kd.S_below (by (with_reducible repeat (first | apply Kd.S_alloc | apply Kd.S_drewN | apply Kd.S_drew)); exact HO45.out) hb); have n1_ := zA (Kd.S_below (by (with_reducible repeat (first | apply Kd.S_alloc | apply Kd.S_drewN | apply Kd.S_drew)); exact HO47.out) hb); have n2_ := zA (yE (g := gb40) (o := .cells #[.slice A0_0 l0_0.length c0_0] 24 (0, 0)) (by (with_reducible repeat (first | refine zL ?_ _ | refine zN ?_ | refine zM ?_ _)); exact BK40.out) hb); have n3_ := zA (zAD (by repeat (first | (with_reducible first | exact HB.out | apply zH | apply zF | apply zG | refine zI ?_ GE40.out) | exact HB.out)) hb); have n4_ := zA (hbox); have n5_ := zA ((by rw [hg]; exact (zAE (by repeat (first | (with_reducible first | exact HB.out | apply zH | apply zF | apply zG | refine zI ?_ GE40.out) | exact HB.out))) : w.heap.size ≤ gb48)); have n6_ := zA ((by rw [hg]; exact (zAE (by repeat (first | (with_reducible first | exact HB.out | apply zH | apply zF | apply zG | refine zI ?_ GE40.out) | exact HB.out))) : w.heap.size ≤ gb48)); have n7_ := zA ((by rw [hg]; exact zK (blk_lt (g := gb40) (o := .cells #[.slice A0_0 l0_0.length c0_0] 24 (0, 0)) (by (with_reducible repeat (first | refine zL ?_ _ | refine zN ?_ | refine zM ?_ _)); exact BK40.out)) : gb40 ≠ gb48)); have n8_ := zA ((by rw [hg]; exact Nat.ne_of_gt (blk_lt (g := gb40) (o := .cells #[.slice A0_0 l0_0.length c0_0] 24 (0, 0)) (by (with_reducible repeat (first | refine zL ?_ _ | refine zN ?_ | refine zM ?_ _)); exact BK40.out)) : gb48 ≠ gb40)); clear HO45; clear HO47; clear BK40; clear HB; have HO45 := n0_; have HO47 := n1_; have BK40 := n2_; have HB := n3_; have BK48 := n4_; have GW48 := n5_; have GE48 := n6_; have NB40_48 := n7_; have NB48_40 := n8_; clear n0_ n1_ n2_ n3_ n4_ n5_ n6_ n7_ n8_; clear hb hbox hg; obtain ⟨Ao22, co22, eo22⟩ := Kd.S_slice HO47.out; subst eo22; have hnb23 := NB48_40.out; have hnc23 := NB40_48.out; have hcz24_0 := yL BK48.out 0 (.slice none 0 0) rfl; have hfz24_0 := zO BK48.out 0) | ((with_reducible refine yB (f := 9) rfl ?_); refine goesL_ (some 24) rfl rfl Try.func9 (by kernel_rfl) rfl #[.agg #[.slice Ao22 t38.length co22]] rfl (by (try simp only [zAA, zAB, zAC]); first | done | rfl | (simp only [zZ, zY]; rfl)) ?_; (with_reducible refine (impl_RootOf.calls _ _ t38 t39 t42 _ ?side1 ?side2 A10.out).mono ?_); (case side1 => refine (Kd.S_reads' (e := 97) (base := w.heap.size) (ok := fun k_ => (True ∧ some k_ ≠ (.slice Ao17 t36.length co17 : Value).ownBlock)) (n := t38.length) (c := co22) ?_).2.2; exact (by (with_reducible repeat (first | apply Kd.S_alloc | apply Kd.S_drewN | apply Kd.S_drew)); exact (Kd.S_mono (Kd.S_far (p := ⟨gb48, 0, none⟩) (Kd.S_types HO47.out BK48.out (by decide)) (fun _ hk => hk.2) (.slice Ao22 t38.length co22)) (fun _ h_ => h_.1)))); (case side2 => exact (Kd.S_reads' HO47.out).2.1); rintro e w25 ⟨rfl, hb⟩; refine ⟨_, rfl, ?_⟩; have n0_ := zA (Kd.S_below (by (with_reducible repeat (first | apply Kd.S_alloc | apply Kd.S_drewN | apply Kd.S_drew)); exact (Kd.S_mono (Kd.S_far (p := ⟨gb48, 0, none⟩) (Kd.S_types HO45.out BK48.out (by decide)) (fun _ hk => hk.2) (.slice Ao22 t38.length co22)) (fun _ h_ => h_.1))) hb); have n1_ := zA (Kd.S_below (by (with_reducible repeat (first | apply Kd.S_alloc | apply Kd.S_drewN | apply Kd.S_drew)); exact (Kd.S_mono (Kd.S_far (p := ⟨gb48, 0, none⟩) (Kd.S_types HO47.out BK48.out (by decide)) (fun _ hk => hk.2) (.slice Ao22 t38.length co22)) (fun _ h_ => h_.1))) hb); have n2_ := zA (yE (g := gb40) (o := .cells #[.slice A0_0 l0_0.length c0_0] 24 (0, 0)) (by (with_reducible repeat (first | refine zL ?_ _ | refine zN ?_ | refine zM ?_ _)); refine blk_far ?_ NB40_48.out _; (with_reducible repeat (first | refine zL ?_ _ | refine zN ?_ | refine zM ?_ _)); exact BK40.out) hb); have n3_ := zA (yE (g := gb48) (o := .cells #[.slice Ao22 t38.length co22] 30 (0, 0)) (by (with_reducible repeat (first | refine zL ?_ _ | refine zN ?_ | refine zM ?_ _)); refine blk_put (cs := #[.slice none 0 0]) ?_ 0 _ rfl; (with_reducible repeat (first | refine zL ?_ _ | refine zN ?_ | refine zM ?_ _)); exact BK48.out) hb); have n4_ := zA (zAD (by repeat (first | (with_reducible first | exact HB.out | apply zH | apply zF | apply zG | refine zI ?_ GE40.out | refine zI ?_ GE48.out) | exact HB.out)) hb); clear HO45; clear HO47; clear BK40; clear BK48; clear HB; have HO45 := n0_; have HO47 := n1_; have BK40 := n2_; have BK48 := n3_; have HB := n4_; clear n0_ n1_ n2_ n3_ n4_; (try clear hb); (try clear hk)))
  (try simp only [Act.put, zC, zD, zE]); go_cut [34] (fun v34 wc => ∃ (kq : Nat) (x34_10 : Bool), v34 = .bool x34_10 ∧ Aside0 (laws_FnExactRootOf.j0 kq x34_10 l0_0 t38 = some r) ∧ Aside0 (kq ≤ k) ∧ Aside0 (Kd.S k97 97 wc w.heap.size (fun _ => True) (.slice Ao22 t38.length co22) t38) ∧ Aside0 (wc.heap[gb40]? = some (.cells #[(.slice A0_0 l0_0.length c0_0)] 24 (0, 0))) ∧ Aside0 (wc.heap[gb48]? = some (.cells #[(.slice Ao22 t38.length co22)] 30 (0, 0))) ∧ Aside0 (Below w.heap.size w wc))
  case first =>
   have H := HC11.out; clear HC11
   by_cases c26 : t39.toList = t37.toList
   ·rw [if_pos c26] at H
    have c26b0 : (t39.toList == t37.toList) = true := beq_iff_eq.mpr c26; have c26b1 : (t39.toList != t37.toList) = false := bne_eq_false_iff_eq.mpr c26; clear c26; (first | rw [c26b0] | (simp only [i64_w, i32_w]; rw [c26b0]) | skip); have H' := zA H; clear H; go_wp2; go_meet
    case rel => exact ⟨_, ((t42 != t41)), (by first | rfl | (simp; done) | (simp [*]; done) | (simp [bne]; done)), H', ⟨by first | omega | exact Nat.le_refl _⟩, ⟨by (with_reducible repeat (first | apply Kd.S_alloc | apply Kd.S_drewN | apply Kd.S_drew)); exact Kd.S_mono HO47.out (fun _ hk => trivial)⟩, ⟨by (with_reducible repeat (first | refine zL ?_ _ | refine zN ?_ | refine zM ?_ _)); exact BK40.out⟩, ⟨by (with_reducible repeat (first | refine zL ?_ _ | refine zN ?_ | refine zM ?_ _)); exact BK48.out⟩, ⟨by repeat (first | (with_reducible first | exact HB.out | apply zH | apply zF | apply zG | refine zI ?_ GE40.out | refine zI ?_ GE48.out) | exact HB.out)⟩⟩
   ·rw [if_neg c26] at H
    have c26b0 : (t39.toList == t37.toList) = false := beq_eq_false_iff_ne.mpr c26; have c26b1 : (t39.toList != t37.toList) = true := bne_iff_ne.mpr c26; (first | rw [c26b0] | (simp only [i64_w, i32_w]; rw [c26b0]) | skip)
    exfalso; revert H; generalize k = q_; intro H; cases q_ with
    | zero => exact absurd H (by simp [laws_FnExactRootOf.j0])
    | succ q_ => simp only [laws_FnExactRootOf.j0] at H; exact absurd ((yM (show some false = some _ from H)).trans hr_.out) (by decide)
  case rest =>
   clear HC11
   try clear c2
   try clear p2
   try clear c3
   try clear c3b0
   try clear c6
   try clear c7
   try clear c8
   try clear c9
   try clear c23
   try clear c26
   try clear c26b0
   try clear c26b1
   try clear hcz13_0
   try clear hcz15_0
   try clear hcz19_0
   try clear hcz24_0
   try clear hcz5_0
   try clear hfz13_0
   try clear hfz15_0
   try clear hfz19_0
   try clear hfz24_0
   try clear hfz5_0
   obtain ⟨kq, x34_10, rfl, HA, HJ10, HO_422000, BK40, BK48, HB⟩ := hcut
   cases kq with
   | zero => exact absurd HA.out (by simp [laws_FnExactRootOf.j0])
   | succ kj10 =>
    have H := HA.out; clear HA; simp only [laws_FnExactRootOf.j0] at H
    by_cases c27 : x34_10 = true
    ·subst c27
     have H1 : (some false) = some r := by rw [if_pos rfl] at H; exact H
     clear H; have H := H1; clear H1; exact absurd ((yM H).trans hr_.out) (by decide)
    ·replace c27 := yO c27
     subst c27; have H1 : ((laws_toTree.f kj10 l0_0).bind fun t49 => ((laws_eqTree.f kj10 t38 t49).bind fun t50 => (if t50 = true then (some true) else (some false)))) = some r := by rw [if_neg (show ¬ (false = true) by decide)] at H; exact H
     clear H; have H := H1; clear H1; replace H := zAF H; obtain ⟨t49, A51, H⟩ := H; replace H : ((laws_eqTree.f kj10 t38 t49).bind fun t50 => (if t50 = true then (some true) else (some false))) = some r := H; have A28 := zA A51; clear A51; replace H := zAF H; obtain ⟨t50, A52, H⟩ := H; replace H : (if t50 = true then (some true) else (some false)) = some r := H; have A29 := zA A52; clear A52
     by_cases c30 : t50 = true
     ·subst c30
      have H1 : (some true) = some r := by rw [if_pos rfl] at H; exact H
      clear H; have H := H1; clear H1; obtain rfl := yM H
      try go_wp2
      have n0_ := zA (Kd.S_drew HO_422000.out); have n1_ := zA (zN BK40.out); have n2_ := zA (zN BK48.out); have n3_ := zA (zG HB.out); clear HO_422000 BK40 BK48 HB; have HO_422000 := n0_; have BK40 := n1_; have BK48 := n2_; have HB := n3_; clear n0_ n1_ n2_ n3_; refine start_ (n := 5) (S := fun w' => w'.cell? ⟨gb48, 0, none⟩ = some (.slice Ao22 t38.length co22) ∧ w'.cell? ⟨gb40, 0, none⟩ = some (.slice A0_0 l0_0.length c0_0)) (ds := []) #[false, false, false, false, false] (by kernel_rfl) rfl rfl ⟨(zP BK48.out 0).trans rfl, (zP BK40.out 0).trans rfl⟩ (fun hHeld => ?_); generalize wc.drew = w31 at HO_422000 BK40 BK48 HB hHeld ⊢; refine take_ (i := 0) (N := some 35) (v := ?_) (a' := ?_) #[true, false, false, false, false] rfl rfl (by kernel_rfl) (fun _ _ _ h => h) (Or.inl ⟨by rfl, ?_⟩) hHeld ?_ ?_; rotate_left
      ·rintro w' ⟨s0, s1⟩
       go_simp
       with_reducible rfl
      rotate_left
      ·simp only [Act.put, zC, zD, zE, i64_w]
       rfl
      refine take_ (i := 1) (N := some 36) (v := ?_) (a' := ?_) #[true, true, false, false, false] rfl rfl (by kernel_rfl) (fun _ _ _ h => h) (Or.inl ⟨by rfl, ?_⟩) hHeld ?_ ?_; rotate_left
      ·rintro w' ⟨s0, s1⟩
       go_simp
       with_reducible rfl
      rotate_left
      ·simp only [Act.put, zC, zD, zE, i64_w]
       rfl
      refine one_ (i := 2) (N := some 37) #[true, true, true, false, false] rfl rfl (by kernel_rfl) (by decide) (fun K hK => ?_); refine goes_ Try.func8 (by kernel_rfl) rfl #[.agg #[.slice A0_0 l0_0.length c0_0]] (by rfl) rfl rfl (by (try simp only [zAA, zAB, zAC]); first | done | rfl | (simp only [zZ, zY]; rfl)) ?_
      with_reducible refine (laws_toTree.calls kj10 _ _ l0_0 t49 _ ?side1 ?side2 A28.out).mono ?_
      (case side1 => repeat (first | exact (yN HR0_0.out HB.out) | (with_reducible first | refine zT ?_ _ | refine zU ?_ _ | refine zV ?_))); (case side2 => exact HC0_0.out); rintro e w32 ⟨v53, rfl, ho0, hb⟩; refine ⟨_, rfl, ?_⟩; have n0_ := zA (Kd.S_elder' (by (with_reducible repeat (first | apply Kd.S_alloc | apply Kd.S_drewN | apply Kd.S_drew)); exact HO_422000.out) (Kd.S_base ho0) hb); have n1_ := zA (Kd.S_lower (Kd.S_new' ho0 (Kd.S_lt (by (with_reducible repeat (first | apply Kd.S_alloc | apply Kd.S_drewN | apply Kd.S_drew)); exact HO_422000.out))) (zAE (by repeat (first | (with_reducible first | exact HB.out | apply zH | apply zF | apply zG | refine zI ?_ GE40.out | refine zI ?_ GE48.out) | exact HB.out)))); have n2_ := zA (yE (g := gb40) (o := .cells #[.slice A0_0 l0_0.length c0_0] 24 (0, 0)) (by (with_reducible repeat (first | refine zL ?_ _ | refine zN ?_ | refine zM ?_ _)); exact BK40.out) hb); have n3_ := zA (yE (g := gb48) (o := .cells #[.slice Ao22 t38.length co22] 30 (0, 0)) (by (with_reducible repeat (first | refine zL ?_ _ | refine zN ?_ | refine zM ?_ _)); exact BK48.out) hb); have n4_ := zA (zAD (by repeat (first | (with_reducible first | exact HB.out | apply zH | apply zF | apply zG | refine zI ?_ GE40.out | refine zI ?_ GE48.out) | exact HB.out)) hb); clear HO_422000 BK40 BK48 HB; have HO_422000 := n0_; have HO54 := n1_; have BK40 := n2_; have BK48 := n3_; have HB := n4_; clear n0_ n1_ n2_ n3_ n4_; (try clear hb); (try clear ho0); obtain ⟨Ao33, co33, eo33⟩ := Kd.S_slice HO54.out; (first | subst eo33 | (injection eo33 with f1_ f2_ f3_; have f4_ := f1_.symm; have f5_ := f3_.symm; clear f1_ f2_ f3_; subst f4_; subst f5_)); refine hK.out _ _ ⟨(zP BK48.out 0).trans rfl, (zP BK40.out 0).trans rfl⟩ (fun hHeld => ?_); clear hK K; refine norm_ (a' := ?_) ?_ ?_; rotate_left
      ·show Act.put _ (some 37) _ = _
       simp only [Act.put, zC, zD, zE, i64_w]; rfl
      refine one_ (i := 3) (N := some 38) #[true, true, true, true, false] rfl rfl (by kernel_rfl) (by decide) (fun K hK => ?_); refine goes_ Try.func10 (by kernel_rfl) rfl #[.agg #[.slice Ao22 t38.length co22], .agg #[.slice Ao33 t49.length co33]] (by rfl) rfl rfl (by (try simp only [zAA, zAB, zAC]); first | done | rfl | (simp only [zZ, zY]; rfl)) ?_
      with_reducible refine (laws_eqTree.calls kj10 _ _ t38 _ _ t49 true _ ?side1 ?side2 ?side3 ?side4 A29.out ⟨rfl⟩).mono ?_
      (case side1 => repeat (first | exact (Kd.S_reads' HO_422000.out).2.2 | (with_reducible first | refine zT ?_ _ | refine zU ?_ _ | refine zV ?_))); (case side2 => exact (Kd.S_reads' HO_422000.out).2.1); (case side3 => repeat (first | exact (Kd.S_reads' HO54.out).2.2 | (with_reducible first | refine zT ?_ _ | refine zU ?_ _ | refine zV ?_))); (case side4 => exact (Kd.S_reads' HO54.out).2.1); rintro e w34 ⟨rfl, hb⟩; refine ⟨_, rfl, ?_⟩; have n0_ := zA (Kd.S_below (by (with_reducible repeat (first | apply Kd.S_alloc | apply Kd.S_drewN | apply Kd.S_drew)); exact HO_422000.out) hb); have n1_ := zA (Kd.S_below (by (with_reducible repeat (first | apply Kd.S_alloc | apply Kd.S_drewN | apply Kd.S_drew)); exact HO54.out) hb); have n2_ := zA (yE (g := gb40) (o := .cells #[.slice A0_0 l0_0.length c0_0] 24 (0, 0)) (by (with_reducible repeat (first | refine zL ?_ _ | refine zN ?_ | refine zM ?_ _)); exact BK40.out) hb); have n3_ := zA (yE (g := gb48) (o := .cells #[.slice Ao22 t38.length co22] 30 (0, 0)) (by (with_reducible repeat (first | refine zL ?_ _ | refine zN ?_ | refine zM ?_ _)); exact BK48.out) hb); have n4_ := zA (zAD (by repeat (first | (with_reducible first | exact HB.out | apply zH | apply zF | apply zG | refine zI ?_ GE40.out | refine zI ?_ GE48.out) | exact HB.out)) hb); clear HO_422000 HO54 BK40 BK48 HB; have HO_422000 := n0_; have HO54 := n1_; have BK40 := n2_; have BK48 := n3_; have HB := n4_; clear n0_ n1_ n2_ n3_ n4_; (try clear hb); refine hK.out _ _ ⟨(zP BK48.out 0).trans rfl, (zP BK40.out 0).trans rfl⟩ (fun hHeld => ?_); clear hK K; refine norm_ (a' := ?_) ?_ ?_; rotate_left
      ·show Act.put _ (some 38) _ = _
       simp only [Act.put, zC, zD, zE, i64_w]; rfl
      refine pure_ (i := 4) (N := some 39) (v := ?_) (a' := ?_) #[true, true, true, true, true] rfl rfl (by kernel_rfl) (fun _ _ _ h => h) (Or.inl ⟨by rfl, ?_⟩) ?_ ?_; rotate_left
      ·intro w'
       go_simp
       with_reducible rfl
      rotate_left
      ·simp only [Act.put, zC, zD, zE, i64_w]
       rfl
      refine done_ (by kernel_rfl) ?_
      try go_wp2
      go_ret; exact ⟨by first | rfl | (simp <;> rfl) | (simp [*] <;> rfl), by repeat (first | (with_reducible first | exact HB.out | apply zH | apply zF | apply zG | refine zI ?_ GE40.out | refine zI ?_ GE48.out) | exact HB.out)⟩
     ·replace c30 := yO c30
      subst c30; have H1 : (some false) = some r := by rw [if_neg (show ¬ (false = true) by decide)] at H; exact H
      clear H; have H := H1; clear H1; exact absurd ((yM H).trans hr_.out) (by decide)
end Go.Proofs.Ytnplghcbdaiogaa.PA
end
section
namespace Go.Proofs.Ytnplghcbdaiogaa.PX

end Go.Proofs.Ytnplghcbdaiogaa.PX
end
section
namespace Go.Proofs.Ytnplghcbdaiogaa.PY
open Go.RowKit Go.Proofs.YtnplghcbdaiogaaW.PrintWords Go.Proofs.YtnplghcbdaiogaaW.PrintLast Go.Proofs.YtnplghcbdaiogaaW.PrintMore Go.Proofs.Ytnplghcbdaiogaa.PB Go.Proofs.Ytnplghcbdaiogaa.PD Go.Proofs.Ytnplghcbdaiogaa.PK Go.Proofs.Ytnplghcbdaiogaa.PL Go.Proofs.Ytnplghcbdaiogaa.PS Go.Proofs.Ytnplghcbdaiogaa.PT Go.Proofs.Ytnplghcbdaiogaa.PU Go.Proofs.Ytnplghcbdaiogaa.PG Go.Proofs.Ytnplghcbdaiogaa.PQ Go.Proofs.Ytnplghcbdaiogaa.PW Go.Proofs.Ytnplghcbdaiogaa.PX Go.Proofs.Ytnplghcbdaiogaa.PA
set_option linter.unusedVariables false
theorem sz_list2 {α : Type} (wt : α → Nat) (l : List α) (rf : List α → Int → α) (hrf : ∀ i (h : i < l.length), rf l (i : Int) = l[i]) (L0 : Nat → List α → Int → Int → Option Int) (F : Nat → List α → Int → Option Int) (e : Nat → α → Int → Option Int)
  (hstep : ∀ k R i, L0 (k + 1) l R i = if i < (l.length : Int) then (if 0 ≤ i then ((e k (rf l i) R).bind fun t => if t < 0 then some (-1) else L0 k l t (wrap64 (i + 1))) else none) else some R)
  (hF : ∀ k R, F k l R = if wrap64 (R - (l.length : Int)) < 0 then some (-1) else L0 k l (wrap64 (R - (l.length : Int))) 0)
  (he : ∀ x ∈ l, ∀ R, 0 ≤ R → R ≤ 1000000000 → Ev (fun k => e k x R) (left R (wt x))) (hl : l.length ≤ 9223372036854775807) (R : Int) (h0 : 0 ≤ R) (h1 : R ≤ 1000000000) :
  Ev (fun k => F k l R) (left R (l.length + wsum wt l)) := by
 have key : ∀ (d i : Nat) (R : Int), i + d = l.length → 0 ≤ R → R ≤ 1000000000 → l.length ≤ 1000000000000 → Ev (fun k => L0 k l R (i : Int)) (left R (wsum wt (l.drop i))) := by
  intro d
  induction d with
  | zero =>
   intro i R hi h0 h1 h2
   rw [List.drop_eq_nil_of_le (by omega)]
   refine Ev.step (f := fun _ => some R) (fun k => by rw [hstep, if_neg (by omega)]) ?_
   refine ev_eq (Ev.now R) ?_
   show R = left R 0
   unfold left
   rw [if_pos (by omega)]; omega
  | succ d ih =>
   intro i R hi h0 h1 h2
   have hlt : i < l.length := by omega
   have hx := he _ (List.getElem_mem hlt) R h0 h1
   rw [List.drop_eq_getElem_cons hlt, show wsum wt (l[i] :: l.drop (i + 1)) = wt l[i] + wsum wt (l.drop (i + 1)) from rfl]
   refine Ev.step (f := fun k => (e k l[i] R).bind fun t => if t < 0 then some (-1) else L0 k l t ((i + 1 : Nat) : Int)) (fun k => ?_) ?_
   ·rw [hstep, if_pos (by omega), if_pos (by omega), hrf i hlt, w64 (x := (i : Int) + 1) (by omega) (by omega)]; rfl
   ·refine ev_bind hx ?_
    by_cases hc : ((wt l[i] : Nat) : Int) ≤ R
    ·rw [left_yes hc]
     refine ev_neg (by omega) ?_
     refine ev_eq (ih (i + 1) (R - wt l[i]) (by omega) (by omega) (by omega) h2) (left_add hc)
    ·rw [left_no hc]
     refine ev_pos (by omega) (ev_eq (Ev.now _) ?_)
     unfold left
     rw [if_neg (by omega)]
 by_cases hc : (l.length : Int) ≤ R
 ·refine Ev.congr (f := fun k => L0 k l (R - l.length) ((0 : Nat) : Int)) (fun k => ?_) ?_
  ·rw [hF, w64 (x := R - (l.length : Int)) (by omega) (by omega), if_neg (by omega)]; rfl
  ·refine ev_eq (key l.length 0 (R - l.length) (by omega) (by omega) (by omega) (by omega)) ?_
   rw [List.drop_zero]; exact left_add hc
 ·refine Ev.congr (f := fun _ => some (-1)) (fun k => ?_) (ev_eq (Ev.now _) ?_)
  ·rw [hF, w64 (x := R - (l.length : Int)) (by omega) (by omega), if_pos (by omega)]
  ·unfold left; rw [if_neg (by omega)]
end Go.Proofs.Ytnplghcbdaiogaa.PY
end
section
namespace Go.Proofs.Ytnplghcbdaiogaa.Pure
open Go.RowKit Go.Proofs.YtnplghcbdaiogaaW.PrintWords Go.Proofs.YtnplghcbdaiogaaW.PrintLast Go.Proofs.YtnplghcbdaiogaaW.PrintMore Go.Proofs.Ytnplghcbdaiogaa.PB Go.Proofs.Ytnplghcbdaiogaa.PL Go.Proofs.Ytnplghcbdaiogaa.PG Go.Proofs.Ytnplghcbdaiogaa.PY Go.Proofs.Ytnplghcbdaiogaa.QW Go.Proofs.Ytnplghcbdaiogaa.PA
set_option linter.unusedVariables false
theorem rdPL_at (l : List S87) (i : Nat) (h : i < l.length) : rd_T87 l (i : Int) = l[i] := by
 unfold rd_T87; rw [Int.toNat_natCast, List.getD_eq_getElem?_getD, List.getElem?_eq_getElem h]; rfl
theorem rdPI_at (l : List S97) (i : Nat) (h : i < l.length) : rd_T97 l (i : Int) = l[i] := by
 unfold rd_T97; rw [Int.toNat_natCast, List.getD_eq_getElem?_getD, List.getElem?_eq_getElem h]; rfl
theorem rdN_at (l : List Int) (i : Nat) (h : i < l.length) : rd l (i : Int) = l[i] := by
 unfold rd; rw [Int.toNat_natCast, List.getD_eq_getElem?_getD, List.getElem?_eq_getElem h]; rfl
theorem toN (l : List Int) (hl : l.length ≤ 2000000) : Ev (fun k => laws_toIntS.f k l) l := by
 have key : ∀ (d i : Nat), i + d = l.length → Ev (fun k => laws_toIntS.l0 k l (filled (fun x => x) 0 l i) (i : Int)) l := by
  intro d
  induction d with
  | zero =>
   intro i hi
   have hi' : i = l.length := by omega
   subst hi'
   refine Ev.step (f := fun _ => some l) (fun k => ?_) (Ev.now _)
   simp only [laws_toIntS.l0]
   rw [if_neg (by omega), filled_all]
   simp
  | succ d ih =>
   intro i hi
   have hlt : i < l.length := by omega
   refine Ev.step (f := fun k => laws_toIntS.l0 k l (filled (fun x => x) 0 l (i + 1)) ((i + 1 : Nat) : Int)) (fun k => ?_) (ih (i + 1) (by omega))
   simp only [laws_toIntS.l0]
   rw [if_pos (by omega), if_pos (by omega), if_pos (by rw [filled_length _ _ _ _ (by omega)]; omega), rdN_at _ _ hlt, w64 (x := (i : Int) + 1) (by omega) (by omega)]
   rw [show ((i : Int)).toNat = i from by omega, filled_set (fun x => x) _ l i hlt]
   rfl
 refine Ev.congr (f := fun k => laws_toIntS.l0 k l (filled (fun x => x) 0 l 0) ((0 : Nat) : Int)) (fun k => ?_) (key l.length 0 (by omega))
 simp only [laws_toIntS.f]
 rw [if_pos (by omega), if_pos (by omega), filled_zero]
 rfl
theorem eqN (l : List Int) (hl : l.length ≤ 2000000) : Ev (fun k => laws_eqIntS.f k l l) true := by
 have key : ∀ (d i : Nat), i + d = l.length → Ev (fun k => laws_eqIntS.l0 k l l (i : Int)) true := by
  intro d
  induction d with
  | zero =>
   intro i hi
   refine Ev.step (f := fun _ => some true) (fun k => ?_) (Ev.now _)
   simp only [laws_eqIntS.l0]
   rw [if_neg (by omega)]
  | succ d ih =>
   intro i hi
   refine Ev.step (f := fun k => laws_eqIntS.l0 k l l ((i + 1 : Nat) : Int)) (fun k => ?_) (ih (i + 1) (by omega))
   simp only [laws_eqIntS.l0]
   rw [if_pos (by omega), if_pos (by omega), if_pos (by omega), if_pos trivial, w64 (x := (i : Int) + 1) (by omega) (by omega)]
   rfl
 refine Ev.congr (f := fun k => laws_eqIntS.l0 k l l ((0 : Nat) : Int)) (fun k => ?_) (key l.length 0 (by omega))
 simp only [laws_eqIntS.f]
 rw [if_pos trivial]
 rfl
theorem szN (l : List Int) (hl : l.length ≤ 9223372036854775807) (R : Int) (h0 : 0 ≤ R) (h1 : R ≤ 1000000000) : laws_szIntS.f l R = some (left R l.length) := by
 unfold laws_szIntS.f left
 by_cases hc : (l.length : Int) ≤ R
 ·rw [w64 (x := R - (l.length : Int)) (by omega) (by omega), if_neg (by omega), if_pos hc]
 ·rw [w64 (x := R - (l.length : Int)) (by omega) (by omega), if_pos (by omega), if_neg hc]
def FitP (x : S87) : Prop := Fit x.f0 ∧ Fit x.f1 ∧ x.f2.length ≤ 9223372036854775807
def wtP (x : S87) : Nat := total x.f0 + (total x.f1 + x.f2.length)
theorem szPage (a b : List ByteArray) (c : List Int) (ha : Fit a) (hb : Fit b) (hc : c.length ≤ 9223372036854775807) (R : Int) (h0 : 0 ≤ R) (h1 : R ≤ 1000000000) : Ev (fun k => laws_szPage.f k a b c R) (left R (total a + (total b + c.length))) := by
 unfold laws_szPage.f
 refine ev_bind (szS a ha R h0 h1) ?_
 by_cases c1 : (total a : Int) ≤ R
 ·rw [if_pos c1]
  refine ev_neg (by omega) (ev_bind (szS b hb _ (by omega) (by omega)) ?_)
  by_cases c2 : (total b : Int) ≤ R - total a
  ·rw [if_pos c2]
   refine ev_neg (by omega) (ev_const (szN c hc _ (by omega) (by omega)) ?_)
   by_cases c3 : (c.length : Int) ≤ R - total a - total b
   ·rw [left_yes c3]
    refine ev_neg (by omega) (ev_eq (Ev.now _) ?_)
    rw [left_yes (by omega)]; omega
   ·rw [left_no c3]
    refine ev_pos (by omega) (ev_eq (Ev.now _) ?_)
    rw [left_no (by omega)]
  ·rw [if_neg c2]
   refine ev_pos (by omega) (ev_eq (Ev.now _) ?_)
   rw [left_no (by omega)]
 ·rw [if_neg c1]
  refine ev_pos (by omega) (ev_eq (Ev.now _) ?_)
  rw [left_no (by omega)]
theorem szPages (l : List S87) (hf : l.length ≤ 9223372036854775807 ∧ ∀ x ∈ l, FitP x) (R : Int) (h0 : 0 ≤ R) (h1 : R ≤ 1000000000) : Ev (fun k => laws_szPageS.f k l R) (left R (l.length + wsum wtP l)) :=
 sz_list2 wtP l rd_T87 (fun i h => rdPL_at l i h) laws_szPageS.l0 laws_szPageS.f (fun k x R => laws_szPage.f k x.f0 x.f1 x.f2 R) (fun k R i => rfl) (fun k R => rfl)
  (fun x hx R h0 h1 => szPage _ _ _ (hf.2 x hx).1 (hf.2 x hx).2.1 (hf.2 x hx).2.2 R h0 h1) hf.1 R h0 h1
def convP (x : S87) : S97 := ⟨x.f0, x.f1, x.f2⟩
def SmP (a b : List ByteArray) (c : List Int) : Prop := a.length ≤ 2000000 ∧ b.length ≤ 2000000 ∧ c.length ≤ 2000000
theorem toPage (a b : List ByteArray) (c : List Int) (h : SmP a b c) : Ev (fun k => laws_toPage.f k a b c) (a, b, c) :=
 ev_bind (toS a h.1) (ev_bind (toS b h.2.1) (ev_bind (toN c h.2.2) (Ev.now _)))
theorem eqPage (a b : List ByteArray) (c : List Int) (h : SmP a b c) : Ev (fun k => laws_eqPage.f k a b c a b c) true :=
 ev_bind (eqS_yes a h.1) (ev_pos rfl (ev_bind (eqS_yes b h.2.1) (ev_pos rfl (ev_bind (eqN c h.2.2) (ev_pos rfl (Ev.now _))))))
theorem small_pages (l : List S87) (h : l.length + wsum wtP l ≤ 1048576) : ∀ x ∈ l, SmP x.f0 x.f1 x.f2 := by
 intro x hx
 have h1 := wsum_mem wtP l x hx
 have h2 : wtP x = (x.f0.length + szL x.f0) + ((x.f1.length + szL x.f1) + x.f2.length) := rfl
 exact ⟨by omega, by omega, by omega⟩
theorem toPages (l : List S87) (hl : l.length ≤ 2000000) (hs : ∀ x ∈ l, SmP x.f0 x.f1 x.f2) : Ev (fun k => laws_toPageS.f k l) (l.map convP) := by
 refine Ev.congr (f := fun k => laws_toPageS.l0 k l (List.replicate l.length z97) 0) (fun k => ?_) (to_list convP z97 l laws_toPageS.l0 hl (fun k out => ?_) (fun i h out ho r hr => ?_))
 ·simp only [laws_toPageS.f]
  rw [if_pos (by omega), if_pos (by omega)]
  rfl
 ·simp only [laws_toPageS.l0]; rw [if_neg (by omega)]
 ·refine Ev.step (f := fun k => (laws_toPage.f k l[i].f0 l[i].f1 l[i].f2).bind fun b => laws_toPageS.l0 k l (out.set i (⟨b.1, b.2.1, b.2.2⟩ : S97)) ((i + 1 : Nat) : Int)) (fun k => ?_) (ev_bind (toPage _ _ _ (hs _ (List.getElem_mem h))) hr)
  simp only [laws_toPageS.l0]
  rw [if_pos (by omega), if_pos (by omega), rdPL_at l i h, w64 (x := (i : Int) + 1) (by omega) (by omega)]
  congr 1
  funext b
  rw [if_pos (by omega)]
  rfl
theorem eqPages (l : List S97) (hl : l.length ≤ 2000000) (hs : ∀ x ∈ l, SmP x.f0 x.f1 x.f2) : Ev (fun k => laws_eqPageS.f k l l) true := by
 refine eq_list l laws_eqPageS.l0 laws_eqPageS.f (fun k => ?_) (fun k => ?_) (fun i h hr => ?_)
 ·simp only [laws_eqPageS.l0]; rw [if_neg (by omega)]
 ·simp only [laws_eqPageS.f]; rw [if_pos trivial]
 ·refine Ev.step (f := fun k => (laws_eqPage.f k l[i].f0 l[i].f1 l[i].f2 l[i].f0 l[i].f1 l[i].f2).bind fun t => if t = true then laws_eqPageS.l0 k l l ((i + 1 : Nat) : Int) else some false) (fun k => ?_) (ev_bind (eqPage _ _ _ (hs _ (List.getElem_mem h))) (ev_pos rfl hr))
  simp only [laws_eqPageS.l0]
  rw [if_pos (by omega), if_pos (by omega), if_pos (by omega), rdPI_at l i h, w64 (x := (i : Int) + 1) (by omega) (by omega)]
  rfl
theorem FnExactRootOf (l : List S87) (hf : l.length ≤ maxLen ∧ ∀ x ∈ l, (x.f0.length ≤ maxLen ∧ ∀ s ∈ x.f0, s.size ≤ maxLen) ∧ (x.f1.length ≤ maxLen ∧ ∀ s ∈ x.f1, s.size ≤ maxLen) ∧ (x.f2.length ≤ maxLen ∧ ∀ n ∈ x.f2, (Lit.int .i64 n).wf = true)) : ∃ k, laws_FnExactRootOf.f k l = some true := by
 refine Ev.rounds ?_
 unfold laws_FnExactRootOf.f
 have hz0 := szPages l ⟨hf.1, fun x hx => ⟨(hf.2 x hx).1, (hf.2 x hx).2.1, (hf.2 x hx).2.2.1⟩⟩ 1048576 (by omega) (by omega)
 have hz : Ev (fun k => laws_szTree.f k l 1048576) (left 1048576 (l.length + wsum wtP l)) := by
  unfold laws_szTree.f
  refine ev_bind hz0 ?_
  by_cases c : ((l.length + wsum wtP l : Nat) : Int) ≤ 1048576
  ·rw [left_yes c]; exact ev_neg (by omega) (Ev.now _)
  ·rw [left_no c]; exact ev_pos (by omega) (Ev.now _)
 by_cases ht : ((l.length + wsum wtP l : Nat) : Int) ≤ 1048576
 ·rw [left_yes ht] at hz
  have hl : l.length ≤ 2000000 := by omega
  have hi := small_pages l (by omega)
  have hm : (l.map convP).length ≤ 2000000 := by rw [List.length_map]; exact hl
  have hsm : ∀ x ∈ l.map convP, SmP x.f0 x.f1 x.f2 := fun x hx => by
   obtain ⟨y, hy, rfl⟩ := List.mem_map.1 hx
   exact hi y hy
  have hto : Ev (fun k => laws_toTree.f k l) (l.map convP) := ev_bind (toPages l hl hi) (Ev.now _)
  have heq : Ev (fun k => laws_eqTree.f k (l.map convP) (l.map convP)) true := ev_bind (eqPages _ hm hsm) (ev_pos rfl (Ev.now _))
  have hb : Go.Proofs.Ytnplghcbdaiogaa.QZ.smlB (l.map convP) = true := (Go.Proofs.Ytnplghcbdaiogaa.QZ.smlB_iff _).2 ⟨by omega, fun x hx => by
   obtain ⟨a, b, c⟩ := hsm x hx
   exact ⟨by omega, by omega, by omega⟩⟩
  have hS : spec_RootOf.f (l.map convP) = some (Go.Proofs.Ytnplghcbdaiogaa.QZ.rootF (l.map convP)) := by unfold spec_RootOf.f; rw [if_pos hb]
  have hI : impl_RootOf.f (l.map convP) = some (Go.Proofs.Ytnplghcbdaiogaa.QZ.rootF (l.map convP)) := by unfold impl_RootOf.f; rw [if_pos hb]
  refine ev_bind hz (ev_neg (by omega) (ev_bind hto (ev_const hS (ev_bind hto (ev_const hI ?_)))))
  refine ev_pos rfl ?_
  refine Ev.step (f := fun k => _) (fun k => by simp only [laws_FnExactRootOf.j0]; rfl) ?_
  exact ev_neg (by simp) (ev_bind hto (ev_bind heq (ev_pos rfl (Ev.now _))))
 ·rw [left_no ht] at hz
  exact ev_bind hz (ev_pos (by omega) (Ev.now _))
end Go.Proofs.Ytnplghcbdaiogaa.Pure
end
section
namespace Go.Proofs.Ytnplghcbdaiogaa.RO
open Go.RowKit Go.Proofs.YtnplghcbdaiogaaW.PrintWords Go.ChangeShapes Go.WideShapes
set_option linter.unusedVariables false
def Opn (P : Program) (W : World) (e : TypeId) {α : Type} (d : Kd α) (G : α → Prop) : Prop :=
 ∀ {H : Type} {enc : TypeId × Value → H} {base : Nat} {spare : Nat → Bool} {held : Bool} {n : Nat} {cs : List Value} {x : DataW H × List MemPlace},
  DataW.trod enc P W base spare held n e cs = some x → ∃ y : α, d.K W y cs ∧ G y
section
variable {P : Program} {W : World} {e t : TypeId}
theorem op_string (he : P.underlying e = some .string) : Opn P W e Kd.string (fun s => s.size ≤ maxLen) := by
 intro H enc base spare held n cs x h
 obtain ⟨s, rfl, _, hs⟩ := DataW.trod_string he h
 exact ⟨s, rfl, hs⟩
theorem op_int {k : IntKind} (he : P.underlying e = some (.int k)) : Opn P W e (Kd.int k) (fun n => (Lit.int k n).wf = true) := by
 intro H enc base spare held n cs x h
 obtain ⟨m, rfl, _, hs⟩ := DataW.trod_int he h
 exact ⟨m, rfl, hs⟩
theorem pick {α : Type} {p : Nat → α → Prop} : ∀ (n : Nat), (∀ i, i < n → ∃ y, p i y) → ∃ ys : List α, ys.length = n ∧ ∀ i y, ys[i]? = some y → p i y := by
 intro n
 induction n with
 | zero => intro _; exact ⟨[], rfl, fun i y h => by simp at h⟩
 | succ n ih =>
  intro h
  obtain ⟨ys, hl, hp⟩ := ih (fun i hi => h i (by omega))
  obtain ⟨y, hy⟩ := h n (by omega)
  refine ⟨ys ++ [y], by simp [hl], fun i z hz => ?_⟩
  by_cases hi : i < n
  ·rw [List.getElem?_append_left (by omega)] at hz
   exact hp i z hz
  ·rw [List.getElem?_append_right (by omega)] at hz
   have : i = n := by
    rcases Nat.lt_or_ge (i - ys.length) 1 with h1 | h1
    ·omega
    ·rw [List.getElem?_eq_none (by simpa using h1)] at hz; cases hz
   subst this
   rw [hl, Nat.sub_self] at hz
   simp at hz
   subst hz
   exact hy
theorem op_slice {α : Type} {d : Kd α} {G : α → Prop} (ht : P.underlying t = some (.slice e)) (hc : P.cellsOf e = d.sz) (ho : Opn P W e d G) : Opn P W t (Kd.slice e d) (fun l => l.length ≤ maxLen ∧ ∀ x ∈ l, G x) := by
 intro H enc base spare held n cs x h
 rcases Deep.open_slice ht h with ⟨rfl, _⟩ | ⟨a, len, cap, m, n', D, Pl, rfl, _, hl, hm, hmm, _, hx⟩
 ·exact ⟨[], ⟨none, 0, rfl, Nat.le_refl _, Kd.C_nil _ _⟩, by simp [maxLen], fun x hx => by cases hx⟩
 ·obtain ⟨ys, hyl, hy⟩ := pick (p := fun i y => ∃ c, c.length = d.sz ∧ d.K W y c ∧ G y ∧ ∀ j u, c[j]? = some u → W.cell? (a.add (i * d.sz + j)) = some u) len (fun i hi => by
   have him : i < m := by rw [hmm]; split <;> omega
   obtain ⟨c, h1, h2⟩ := hx i him
   obtain ⟨y, hk, hg⟩ := ho h2
   obtain ⟨_, hcl, hcell⟩ := World.cells?_some h1
   rw [hc] at hcl hcell
   refine ⟨y, c, hcl, hk, hg, fun j u hj => ?_⟩
   have hj' : j < d.sz := by rw [← hcl]; exact (List.getElem?_eq_some_iff.1 hj).1
   have := hcell j hj'
   rw [hj] at this
   rw [← this]
   congr 1
   have e0 : ∀ p q : Nat, (a.add p).add q = a.add (p + q) := by
    intro p q
    obtain ⟨b, o, s⟩ := a
    unfold Addr.add
    by_cases hp : p = 0
    ·subst hp; simp
    ·by_cases hq : q = 0
     ·subst hq; simp [hp]
     ·simp [hp, hq]; omega
   rw [e0])
  refine ⟨ys, ⟨some a, cap, by rw [hyl], by omega, rfl, by rw [hyl]; unfold maxLen at hm; omega, fun h0 => ⟨a, rfl, fun j p hj => ?_⟩⟩, by rw [hyl]; omega, fun x hx => ?_⟩
  ·obtain ⟨c, h1, h2, _, h3⟩ := hy j p hj
   exact ⟨c, h1, h2, h3⟩
  ·obtain ⟨i, hi⟩ := List.getElem?_of_mem hx
   obtain ⟨c, _, _, h, _⟩ := hy i x hi
   exact h
def OpAt (P : Program) (W : World) (fs : List (TypeId × Nat)) (off : Nat) {α : Type} (d : Kd α) (G : α → Prop) : Prop :=
 ∀ {H : Type} {enc : TypeId × Value → H} {base : Nat} {spare : Nat → Bool} {held : Bool} {n : Nat} {cs : List Value}, cs.length = off + d.sz →
  (∀ f ∈ fs, ∃ x, DataW.trod enc P W base spare held n f.1 ((cs.drop f.2).take (P.cellsOf f.1)) = some x) → ∃ y : α, d.K W y (cs.drop off) ∧ G y
theorem opAt_one {off : Nat} {α : Type} {d : Kd α} {G : α → Prop} (hc : P.cellsOf e = d.sz) (h : Opn P W e d G) : OpAt P W [(e, off)] off d G := by
 intro H enc base spare held n cs hl hf
 obtain ⟨x, hx⟩ := hf (e, off) (List.mem_singleton.2 rfl)
 dsimp only at hx
 rw [hc, List.take_of_length_le (by rw [List.length_drop]; omega)] at hx
 exact h hx
theorem opAt_cons {off : Nat} {fs : List (TypeId × Nat)} {α β : Type} {d1 : Kd α} {d2 : Kd β} {G1 : α → Prop} {G2 : β → Prop} (hc : P.cellsOf e = d1.sz) (h1 : Opn P W e d1 G1) (h2 : OpAt P W fs (off + d1.sz) d2 G2) :
  OpAt P W ((e, off) :: fs) off (Kd.pair d1 d2) (fun y => G1 y.1 ∧ G2 y.2) := by
 intro H enc base spare held n cs hl hf
 have hl' : cs.length = off + (d1.sz + d2.sz) := hl
 obtain ⟨x, hx⟩ := hf (e, off) List.mem_cons_self
 dsimp only at hx
 rw [hc] at hx
 obtain ⟨y1, hk1, hg1⟩ := h1 hx
 obtain ⟨y2, hk2, hg2⟩ := h2 (cs := cs) (by omega) (fun f hf' => hf f (List.mem_cons_of_mem _ hf'))
 refine ⟨(y1, y2), ⟨(cs.drop off).take d1.sz, cs.drop (off + d1.sz), ?_, hk1, hk2⟩, hg1, hg2⟩
 rw [← List.drop_drop, List.take_append_drop]
theorem op_struct {fs : Array Field} {L : List (TypeId × Nat)} {α β : Type} {d : Kd α} {f : β → α} {g : α → β} {G : α → Prop} (ht : P.underlying t = some (.struct fs)) (hL : fs.toList.map (fun f => (f.type, f.offset)) = L) (hc : P.cellsOf t = d.sz) (hfg : ∀ y, f (g y) = y)
  (h : OpAt P W L 0 d G) : Opn P W t (Kd.iso d f) (fun x => G (f x)) := by
 intro H enc base spare held n cs x hx
 obtain ⟨xs, m, _, _, hl, hxl, hf⟩ := DataW.trod_struct ht hx
 obtain ⟨y, hk, hg⟩ := h (cs := cs) (n := m) (enc := enc) (base := base) (spare := spare) (held := held) (by rw [hl, hc]; omega) (fun q hq => by
  rw [← hL] at hq
  obtain ⟨fd, hfd, rfl⟩ := List.mem_map.1 hq
  obtain ⟨i, hi⟩ := List.getElem?_of_mem hfd
  rw [Array.getElem?_toList] at hi
  have hlt : i < xs.length := by
   have := (Array.getElem?_eq_some_iff.1 hi).1
   omega
  exact ⟨xs[i], by rw [hf i fd hi]; exact List.getElem?_eq_getElem hlt⟩)
 rw [List.drop_zero] at hk
 refine ⟨g y, ?_, ?_⟩
 ·show d.K W (f (g y)) cs
  rw [hfg]; exact hk
 ·show G (f (g y))
  rw [hfg]; exact hg
theorem op_struct0 {fs : Array Field} {L : List (TypeId × Nat)} {α : Type} {d : Kd α} {G : α → Prop} (ht : P.underlying t = some (.struct fs)) (hL : fs.toList.map (fun f => (f.type, f.offset)) = L) (hc : P.cellsOf t = d.sz)
  (h : OpAt P W L 0 d G) : Opn P W t d G := by
 intro H enc base spare held n cs x hx
 exact op_struct (d := d) (f := fun y : α => y) (g := fun y => y) ht hL hc (fun _ => rfl) h hx
end
theorem agg_of_wide {P : Program} {w : World} {r : Reach} {base : Nat} {t : TypeId} {fs : Array Field} {v : Value} {l : List Value} (ht : P.underlying t = some (.struct fs)) (hw : Value.okWide P w r base t v) (h : v.cells.toList = l) : v = .agg l.toArray := by
 simp only [Value.okWide, ht] at hw
 obtain ⟨cs, rfl, _⟩ := hw
 rw [← h]
 simp [Value.cells]
end Go.Proofs.Ytnplghcbdaiogaa.RO
end
